/- The drawing of a space: what it returns can be read. No condition. -/
import Derived.Test.YtbfdbkidmakapaaRd
import Derived.Test.YtbfdbkidmakapaaSpaceNew
import Derived.Test.YtbfdbkidmakapaaRow
import Derived.Deep.DeepCutAuto
import Derived.Deep.CutBlock
namespace Go.Proofs.Ytbfdbkidmakapaa
set_option linter.unnecessarySimpa false
open Go.RowKit
set_option linter.unusedVariables false
set_option linter.unusedSimpArgs false

/-- The numbers of the blocks: the reader p, the result q, the space's box b, its rows g and h. -/
structure Nums (z p q b g h : Nat) : Prop where
  a1 : p < z
  a2 : z ≤ q
  a3 : z ≤ b
  a4 : z ≤ g
  a5 : z ≤ h
  n1 : q ≠ b
  n2 : q ≠ g
  n3 : q ≠ h
  n4 : b ≠ g
  n5 : b ≠ h
  n6 : g ≠ h

def SpInv (w : World) (p : Nat) (A : Option Addr) (n c : Nat) (zs : List Int) (q b g h cg ch : Nat) (k : Nat) (W : World) : Prop :=
  ∃ xs ys, OwnI W g 64 cg xs ∧ OwnI W h 64 ch ys ∧ Rd W p A n c zs k ∧ Chg (· ∈ [p]) w W ∧
    W.cell? ⟨b, 0, none⟩ = some (.slice (some ⟨g, 0, none⟩) 64 cg) ∧ W.cell? ⟨b, 1, none⟩ = some (.slice (some ⟨h, 0, none⟩) 64 ch) ∧ (∀ j, W.frozen? ⟨b, j, none⟩ = false) ∧
    W.cell? ⟨q, 0, none⟩ = some (.slice none 0 0) ∧ W.cell? ⟨q, 1, none⟩ = some (.slice none 0 0) ∧ (∀ j, W.frozen? ⟨q, j, none⟩ = false) ∧ q < W.heap.size ∧ b < W.heap.size ∧ (∀ j, -1000 ≤ xs.getD j 0 ∧ xs.getD j 0 ≤ 1000)
section
variable {w W W' : World} {p : Nat} {A : Option Addr} {n c : Nat} {zs : List Int} {q b g h cg ch k k' : Nat}
theorem SpInv.rd (i : SpInv w p A n c zs q b g h cg ch k W) : Rd W p A n c zs k := by obtain ⟨_, _, _, _, h, _⟩ := i; exact h
theorem SpInv.cb (i : SpInv w p A n c zs q b g h cg ch k W) : W.cell? ⟨b, 0, none⟩ = some (.slice (some ⟨g, 0, none⟩) 64 cg) ∧ W.cell? ⟨b, 1, none⟩ = some (.slice (some ⟨h, 0, none⟩) 64 ch) := by
  obtain ⟨_, _, _, _, _, _, h1, h2, _⟩ := i; exact ⟨h1, h2⟩
theorem SpInv.at1 (i : SpInv w p A n c zs q b g h cg ch k W) {j : Nat} (hj : j < 64) : ∃ x : Int, W.cell? ⟨g, j, none⟩ = some (.int .i64 x) ∧ W.frozen? ⟨g, j, none⟩ = false ∧ -1000 ≤ x ∧ x ≤ 1000 := by
  obtain ⟨xs, ys, h1, _, _, _, _, _, _, _, _, _, _, _, hx⟩ := i; exact ⟨_, h1.cell hj, h1.frozen j, hx j⟩
theorem SpInv.at2 (i : SpInv w p A n c zs q b g h cg ch k W) {j : Nat} (hj : j < 64) : ∃ x : Int, W.cell? ⟨h, j, none⟩ = some (.int .i64 x) ∧ W.frozen? ⟨h, j, none⟩ = false := by
  obtain ⟨xs, ys, _, h1, _⟩ := i; exact ⟨_, h1.cell hj, h1.frozen j⟩
theorem SpInv.chg (i : SpInv w p A n c zs q b g h cg ch k W) : Chg (· ∈ [p]) w W := by obtain ⟨_, _, _, _, _, h, _⟩ := i; exact h
/-- A step that turns the reader's block alone. -/
theorem SpInv.step (i : SpInv w p A n c zs q b g h cg ch k W) (N : Nums w.heap.size p q b g h) (hr : Rd W' p A n c zs k') (hc : Chg (· ∈ [p]) W W') : SpInv w p A n c zs q b g h cg ch k' W' := by
  obtain ⟨xs, ys, o1, o2, _, hch, b0, b1, bf, q0, q1, qf, hq, hb, hx⟩ := i
  obtain ⟨a1, a2, a3, a4, a5, n1, n2, n3, n4, n5, n6⟩ := N
  have e : ∀ t, t < W.heap.size → t ≠ p → W'.heap[t]? = W.heap[t]? := fun t h1 h2 => hc.block t h1 (by simpa using h2)
  have eb := e b hb (by omega)
  have eq := e q hq (by omega)
  refine ⟨xs, ys, o1.keep (e g o1.lt (by omega)), o2.keep (e h o2.lt (by omega)), hr, hch.trans hc, (World.cell?_of_block eb).trans b0, (World.cell?_of_block eb).trans b1, fun j => (World.frozen?_of_block eb).trans (bf j),
    (World.cell?_of_block eq).trans q0, (World.cell?_of_block eq).trans q1, fun j => (World.frozen?_of_block eq).trans (qf j), Nat.lt_of_lt_of_le hq hc.size, Nat.lt_of_lt_of_le hb hc.size, hx⟩
theorem SpInv.drew (i : SpInv w p A n c zs q b g h cg ch k W) : SpInv w p A n c zs q b g h cg ch k W.drew := by
  obtain ⟨xs, ys, o1, o2, hr, hch, r⟩ := i
  exact ⟨xs, ys, o1, o2, hr, ⟨hch.os, hch.tape, hch.output, hch.size, hch.block⟩, r⟩
theorem SpInv.alloc (i : SpInv w p A n c zs q b g h cg ch k W) (o : Obj) : SpInv w p A n c zs q b g h cg ch k (W.alloc o) := by
  obtain ⟨xs, ys, o1, o2, hr, hch, b0, b1, bf, q0, q1, qf, hq, hb, hx⟩ := i
  have eb := Below.heap_alloc W o b hb
  have eq := Below.heap_alloc W o q hq
  exact ⟨xs, ys, o1.alloc o, o2.alloc o, hr.below ((Below.refl _ _).alloc (Nat.le_refl _) o), hch.alloc o, (World.cell?_of_block eb).trans b0, (World.cell?_of_block eb).trans b1, fun j => (World.frozen?_of_block eb).trans (bf j),
    (World.cell?_of_block eq).trans q0, (World.cell?_of_block eq).trans q1, fun j => (World.frozen?_of_block eq).trans (qf j), by simp; omega, by simp; omega, hx⟩
theorem SpInv.set1 (i : SpInv w p A n c zs q b g h cg ch k W) (N : Nums w.heap.size p q b g h) (hold : ∀ b off, 0 < n → A = some ⟨b, off, none⟩ → b < w.heap.size) {j : Nat} (hj : j < 64) (x : Int) (hxb : -1000 ≤ x ∧ x ≤ 1000) : SpInv w p A n c zs q b g h cg ch k (W.setCell ⟨g, j, none⟩ (.int .i64 x)) := by
  obtain ⟨xs, ys, o1, o2, hr, hch, b0, b1, bf, q0, q1, qf, hq, hb, hx⟩ := i
  obtain ⟨a1, a2, a3, a4, a5, n1, n2, n3, n4, n5, n6⟩ := N
  have e : ∀ t, t ≠ g → (W.setCell ⟨g, j, none⟩ (.int .i64 x)).heap[t]? = W.heap[t]? := fun t ht => Below.heap_setCell W _ _ t ht
  have hs : (W.setCell ⟨g, j, none⟩ (.int .i64 x)).heap.size = W.heap.size := by simp [World.setCell]
  refine ⟨xs.set j x, ys, o1.set_ hj x, o2.setOther (by simpa using n6.symm) _, hr.keep (by omega) (fun t ht hh => e t ?_), hch.setCell (.inr (by simpa using a4)) _, (World.cell?_of_block (e b n4)).trans b0, (World.cell?_of_block (e b n4)).trans b1,
    fun j => (World.frozen?_of_block (e b n4)).trans (bf j), (World.cell?_of_block (e q n2)).trans q0, (World.cell?_of_block (e q n2)).trans q1, fun j => (World.frozen?_of_block (e q n2)).trans (qf j), by omega, by omega, fun t => ?_⟩
  rotate_left
  · simp only [List.getD, List.getElem?_set]
    split
    · split
      · exact hxb
      · simp
    · exact hx t
  rcases hh with rfl | ⟨hn, off, hA⟩
  · omega
  · have := hold t off hn hA
    omega
theorem SpInv.set2 (i : SpInv w p A n c zs q b g h cg ch k W) (N : Nums w.heap.size p q b g h) (hold : ∀ b off, 0 < n → A = some ⟨b, off, none⟩ → b < w.heap.size) {j : Nat} (hj : j < 64) (x : Int) : SpInv w p A n c zs q b g h cg ch k (W.setCell ⟨h, j, none⟩ (.int .i64 x)) := by
  obtain ⟨xs, ys, o1, o2, hr, hch, b0, b1, bf, q0, q1, qf, hq, hb, hx⟩ := i
  obtain ⟨a1, a2, a3, a4, a5, n1, n2, n3, n4, n5, n6⟩ := N
  have e : ∀ t, t ≠ h → (W.setCell ⟨h, j, none⟩ (.int .i64 x)).heap[t]? = W.heap[t]? := fun t ht => Below.heap_setCell W _ _ t ht
  have hs : (W.setCell ⟨h, j, none⟩ (.int .i64 x)).heap.size = W.heap.size := by simp [World.setCell]
  refine ⟨xs, ys.set j x, o1.setOther (by simpa using n6) _, o2.set_ hj x, hr.keep (by omega) (fun t ht hh => e t ?_), hch.setCell (.inr (by simpa using a5)) _, (World.cell?_of_block (e b n5)).trans b0, (World.cell?_of_block (e b n5)).trans b1,
    fun j => (World.frozen?_of_block (e b n5)).trans (bf j), (World.cell?_of_block (e q n3)).trans q0, (World.cell?_of_block (e q n3)).trans q1, fun j => (World.frozen?_of_block (e q n3)).trans (qf j), by omega, by omega, hx⟩
  rcases hh with rfl | ⟨hn, off, hA⟩
  · omega
  · have := hold t off hn hA
    omega
end

/-- What the drawing of a space returns: a space that can be read, in memory of its own. -/
def SpDrawn (w : World) (p : Nat) (A : Option Addr) (n c : Nat) (zs : List Int) (k : Nat) (e : Ending) (w' : World) : Prop :=
  ∃ A1 n1 c1 B1 m1 d1 xs ys k', e = .returned (.agg #[.slice A1 n1 c1, .slice B1 m1 d1]) ∧ IntsAt w' A1 n1 xs ∧ IntsAt w' B1 m1 ys ∧ (A1 = none → n1 = 0 ∧ c1 = 0) ∧ (B1 = none → m1 = 0 ∧ d1 = 0) ∧ n1 ≤ c1 ∧ m1 ≤ d1 ∧
    (∀ b off, A1 = some ⟨b, off, none⟩ → w.heap.size ≤ b) ∧ (∀ b off, B1 = some ⟨b, off, none⟩ → w.heap.size ≤ b) ∧ k' ≤ k + 100 ∧ Rd w' p A n c zs k' ∧ Chg (· ∈ [p]) w w'

section
variable {w W W' : World} {p : Nat} {A : Option Addr} {n c : Nat} {zs : List Int} {q b g h cg ch k k' : Nat}
theorem list3_get (r : Nat) (hr : r < 3) : ∃ x : Int, (#[.int .i64 (-1), .int .i64 901, .int .i64 0] : Array Value)[r]? = some (.int .i64 x) := by
  rcases r with _ | _ | _ | r
  · exact ⟨_, rfl⟩
  · exact ⟨_, rfl⟩
  · exact ⟨_, rfl⟩
  · omega
theorem list3_cell {b r : Nat} {t : TypeId} (hc : Chg (· ∈ [p]) (W.alloc (.cells #[.int .i64 (-1), .int .i64 901, .int .i64 0] t)) W') (hb : b = W.heap.size) (hp : p ≠ b) (hr : r < 3) : ∃ x : Int, W'.cell? ⟨b, r, none⟩ = some (.int .i64 x) := by
  obtain ⟨x, hx⟩ := list3_get r hr
  subst hb
  refine ⟨x, (World.cell?_of_block (hc.block W.heap.size (by simp) (by simpa using hp.symm))).trans ?_⟩
  simp [go_sem, hx]
theorem chg_grown {S : Nat → Prop} {a b c : World} {o : Obj} {row : Option Nat} {t : Nat} (h : Chg S a b) (hg : (b.alloc o).grownBy c row) (hr : row = some t) (ht : a.heap.size ≤ t) : Chg S a c :=
  ⟨hg.os.trans h.os, hg.tape.trans h.tape, hg.output.trans h.output, Nat.le_trans h.size (Nat.le_trans (by simp) hg.size), fun i hi hs => ((hg.block i (by have := h.size; simp; omega) (by rw [hr]; intro e; injection e with e; omega)).trans (Below.heap_alloc _ _ _ (Nat.lt_of_lt_of_le hi h.size))).trans (h.block i hi hs)⟩
theorem chg_cell {b r : Nat} {x : Int} (hc : Chg (· ∈ [p]) W W') (h : W.cell? ⟨b, r, none⟩ = some (.int .i64 x)) (hp : p ≠ b) : W'.cell? ⟨b, r, none⟩ = some (.int .i64 x) :=
  (World.cell?_of_block (hc.block b (World.block_lt_of_cell? W _ h) (by simpa using hp.symm))).trans h
end
def SpSome (w : World) (p : Nat) (A : Option Addr) (n c : Nat) (zs : List Int) (q b g h cg ch : Nat) (k : Nat) (W : World) : Prop := ∃ k', k' ≤ k ∧ SpInv w p A n c zs q b g h cg ch k' W
section
variable {w W W' : World} {p : Nat} {A : Option Addr} {n c : Nat} {zs : List Int} {q b g h cg ch k k' : Nat}
theorem SpInv.bq (i : SpInv w p A n c zs q b g h cg ch k W) : (∀ j, W.frozen? ⟨b, j, none⟩ = false) ∧ W.cell? ⟨q, 0, none⟩ = some (.slice none 0 0) ∧ W.cell? ⟨q, 1, none⟩ = some (.slice none 0 0) ∧ (∀ j, W.frozen? ⟨q, j, none⟩ = false) := by
  obtain ⟨_, _, _, _, _, _, _, _, h1, h2, h3, h4, _⟩ := i; exact ⟨h1, h2, h3, h4⟩
theorem SpInv.lb (i : SpInv w p A n c zs q b g h cg ch k W) : b < W.heap.size := by
  obtain ⟨_, _, _, _, _, _, _, _, _, _, _, _, _, h, _⟩ := i; exact h
theorem SpInv.lq (i : SpInv w p A n c zs q b g h cg ch k W) : q < W.heap.size := by
  obtain ⟨_, _, _, _, _, _, _, _, _, _, _, _, h, _⟩ := i; exact h
theorem info_int' : (Try.prog.info? 3).map (fun i => (i.zero, i.size, i.bytes)) = some (some (.int .i64 0), 1, 8) := by kernel_rfl
theorem SpInv.lts (i : SpInv w p A n c zs q b g h cg ch k W) : g < W.heap.size ∧ h < W.heap.size ∧ b < W.heap.size ∧ q < W.heap.size := by
  have hb := i.lb
  have hq := i.lq
  obtain ⟨_, _, o1, o2, _⟩ := i
  exact ⟨o1.lt, o2.lt, hb, hq⟩
theorem SpInv.own (i : SpInv w p A n c zs q b g h cg ch k W) : ∃ xs ys, OwnI W g 64 cg xs ∧ OwnI W h 64 ch ys := by
  obtain ⟨xs, ys, h1, h2, _⟩ := i; exact ⟨xs, ys, h1, h2⟩
theorem SpDrawn.mk_ {A1 B1 : Option Addr} {n1 c1 m1 d1 : Nat} {xs ys : List Int} (hr : Rd W p A n c zs k') (hk : k' ≤ k + 100) (hc : Chg (· ∈ [p]) w W) (h1 : IntsAt W A1 n1 xs) (h2 : IntsAt W B1 m1 ys)
    (f1 : A1 = none → n1 = 0 ∧ c1 = 0) (f2 : B1 = none → m1 = 0 ∧ d1 = 0) (g1 : n1 ≤ c1) (g2 : m1 ≤ d1) (e1 : ∀ b off, A1 = some ⟨b, off, none⟩ → w.heap.size ≤ b) (e2 : ∀ b off, B1 = some ⟨b, off, none⟩ → w.heap.size ≤ b) :
    SpDrawn w p A n c zs k (.returned (.agg #[.slice A1 n1 c1, .slice B1 m1 d1])) W :=
  ⟨A1, n1, c1, B1, m1, d1, xs, ys, k', rfl, h1, h2, f1, f2, g1, g2, e1, e2, hk, hr, hc⟩
/-- A store into a block of the call's own that is none of the reader's. -/
theorem Rd.store (hr : Rd W p A n c zs k) (hold : ∀ b off, 0 < n → A = some ⟨b, off, none⟩ → b < w.heap.size) (hpw : p < w.heap.size) {a : Addr} (ha : w.heap.size ≤ a.block) (u : Value) : Rd (W.setCell a u) p A n c zs k := by
  refine hr.keep (by simp [World.setCell]) fun t ht hh => Below.heap_setCell W a u t ?_
  rcases hh with rfl | ⟨hn, off, hA⟩
  · omega
  · have := hold t off hn hA
    omega
theorem IntsAt.store {A1 : Option Addr} {n1 : Nat} {xs : List Int} (h : IntsAt W A1 n1 xs) {a : Addr} (ha : ∀ b off, A1 = some ⟨b, off, none⟩ → b ≠ a.block) (u : Value) : IntsAt (W.setCell a u) A1 n1 xs :=
  h.keep fun b off hA _ => Below.heap_setCell W a u b (ha b off hA)
theorem OwnI.row {xs : List Int} {m cap : Nat} (h : OwnI W g m cap xs) {base : Nat} (hb : base ≤ g) : W.ownsRow base 3 1 (.slice (some ⟨g, 0, none⟩) m cap) m (xs.map (Value.int .i64)) := by
  obtain ⟨h1, h2, h3, cur, hg, h4, h5⟩ := h
  refine ⟨by simpa using h1, .inr ⟨g, cap, cur, rfl, hb, hg, h2, h3.1, by simpa using h4, ?_⟩⟩
  apply List.ext_getElem?
  intro j
  rw [List.getElem?_take]
  by_cases hj : j < m
  · rw [if_pos (by omega)]
    have e : cur.toList[j]? = cur[j]? := by simp
    rw [e, h5 j hj]
    simp [List.getD, show j < xs.length by omega]
  · rw [if_neg (by omega), List.getElem?_eq_none (by simp; omega)]
theorem OwnI.drop1 {xs : List Int} {m cap : Nat} (h : OwnI W g (m + 1) cap xs) : IntsAt W (some ⟨g, 1, none⟩) m (xs.drop 1) := by
  refine ⟨by simp [h.len], ?_, fun _ => ⟨g, 1, rfl, fun j hj => ?_⟩⟩
  · have := h.2.1; have := h.2.2.1.1; omega
  · rw [h.cell (j := 1 + j) (by omega)]
    simp only [List.getD, List.getElem?_drop]
end

theorem SpInv.finish {w W : World} {p : Nat} {A : Option Addr} {n c : Nat} {zs : List Int} {q b g h cg ch k k' : Nat} (i : SpInv w p A n c zs q b g h cg ch k' W) (N : Nums w.heap.size p q b g h) (hold : ∀ b off, 0 < n → A = some ⟨b, off, none⟩ → b < w.heap.size)
    (hk : k' ≤ k + 100) (u v : Value) : SpDrawn w p A n c zs k (.returned (.agg #[.slice (some ⟨g, 0, none⟩) 64 cg, .slice (some ⟨h, 0, none⟩) 64 ch])) ((W.setCell ⟨q, 0, none⟩ u).setCell ⟨q, 1, none⟩ v) := by
  obtain ⟨xs, ys, o1, o2⟩ := i.own
  obtain ⟨a1, a2, a3, a4, a5, n1, n2, n3, n4, n5, n6⟩ := N
  refine SpDrawn.mk_ ((i.rd.store hold a1 (a := ⟨q, 0, none⟩) (by simpa using a2) u).store hold a1 (a := ⟨q, 1, none⟩) (by simpa using a2) v) hk ((i.chg.setCell (.inr (by simpa using a2)) u).setCell (.inr (by simpa using a2)) v)
    ((o1.at_.store (fun b off hA => ?_) u).store (fun b off hA => ?_) v) ((o2.at_.store (fun b off hA => ?_) u).store (fun b off hA => ?_) v) (fun e => by cases e) (fun e => by cases e) o1.2.1 o2.2.1 (fun b off hA => ?_) (fun b off hA => ?_)
  all_goals (injection hA with e; injection e with e1 e2; subst e1; (try simp only); omega)

theorem SpDrawn.alloc {w W : World} {p : Nat} {A : Option Addr} {n c : Nat} {zs : List Int} {k : Nat} {e : Ending} (h : SpDrawn w p A n c zs k e W) (o : Obj) : SpDrawn w p A n c zs k e (W.alloc o) := by
  obtain ⟨A1, n1, c1, B1, m1, d1, xs, ys, k', he, h1, h2, f1, f2, g1, g2, e1, e2, hk, hr, hc⟩ := h
  have hb : Below W.heap.size W (W.alloc o) := (Below.refl _ _).alloc (Nat.le_refl _) o
  exact ⟨A1, n1, c1, B1, m1, d1, xs, ys, k', he, h1.below hb, h2.below hb, f1, f2, g1, g2, e1, e2, hk, hr.below hb, hc.alloc o⟩

set_option maxRecDepth 100000 in
set_option maxHeartbeats 8000000 in
theorem l91Space_any (w : World) (p : Nat) (A : Option Addr) (n c : Nat) (zs : List Int) (k : Nat) (hr : Rd w p A n c zs k) (hk : k ≤ 100000) :
    Calls Try.prog 41 #[.pointer (some ⟨p, 0, none⟩)] w (SpDrawn w p A n c zs k) := by
  have hold : ∀ b off, 0 < n → A = some ⟨b, off, none⟩ → b < w.heap.size := fun b off h e => hr.old h e
  have HO := Lib.hid hold
  clear hold
  have hpl : p < w.heap.size := hr.2.2.2.1
  go_enter Try.func41, Try.ntmps41
  go_wp2_with fail
  refine (spSpaceNew_any _).mono ?_
  rintro e w1 ⟨g, h, cg, ch, rfl, hgh, hg, hh, og, oh, hb1⟩
  have s1 := hb1.size
  simp at s1 hg hh
  have lg := og.lt
  have lh := oh.lt
  have N : Nums w.heap.size p w.heap.size w1.heap.size g h := ⟨hpl, by omega, by omega, by omega, by omega, by omega, by omega, by omega, by omega, by omega, hgh⟩
  have hw1 : Below w.heap.size w w1 := ((Below.refl _ _).alloc (Nat.le_refl _) _).trans (hb1.mono (by simp))
  have q0 : w1.cell? ⟨w.heap.size, 0, none⟩ = some (.slice none 0 0) := (hb1.cell (by simp)).trans (by simp [go_sem])
  have q1 : w1.cell? ⟨w.heap.size, 1, none⟩ = some (.slice none 0 0) := (hb1.cell (by simp)).trans (by simp [go_sem])
  have qf : ∀ j, w1.frozen? ⟨w.heap.size, j, none⟩ = false := fun j => (hb1.frozen (by simp)).trans (by simp [go_sem])
  have i0 : SpInv w p A n c zs w.heap.size w1.heap.size g h cg ch k (w1.alloc (.cells #[.slice (some ⟨g, 0, none⟩) 64 cg, .slice (some ⟨h, 0, none⟩) 64 ch] 25)) := by
    have hq : w.heap.size < w1.heap.size := by omega
    refine ⟨_, _, og.alloc _, oh.alloc _, (hr.below hw1).below ((Below.refl _ _).alloc (Nat.le_refl _) _), (Chg.of_below hw1 _).alloc _, by simp [go_sem], by simp [go_sem], by simp [go_sem], ?_, ?_, fun j => ?_, by simp; omega, by simp, fun j => by rw [show z64.getD j 0 = 0 by unfold z64; simp only [List.getD, List.getElem?_replicate]; split <;> rfl]; omega⟩
    · exact (World.cell?_alloc_lt w1 _ ⟨w.heap.size, 0, none⟩ hq).trans q0
    · exact (World.cell?_alloc_lt w1 _ ⟨w.heap.size, 1, none⟩ hq).trans q1
    · exact (World.frozen?_of_block (Below.heap_alloc w1 _ _ hq)).trans (qf j)
  clear q0 q1 qf og oh hb1 hw1
  go_wp2_with fail
  have N2 := N
  obtain ⟨b, hbb⟩ : ∃ b, b = w1.heap.size := ⟨_, rfl⟩
  obtain ⟨q, hqq⟩ : ∃ q, q = w.heap.size := ⟨_, rfl⟩
  generalize hW : w1.alloc (.cells #[.slice (some ⟨g, 0, none⟩) 64 cg, .slice (some ⟨h, 0, none⟩) 64 ch] 25) = w2 at *
  clear hW
  obtain ⟨m1, m2, m3, m4, m5, m6, m7, m8, m9, m10, m11⟩ := N2
  have m6' := m6.symm
  have m7' := m7.symm
  have m8' := m8.symm
  have m9' := m9.symm
  have m10' := m10.symm
  have m11' := m11.symm
  refine (pick_any _ p A n c zs _ 14 i0.rd (by omega) (by omega) (by omega)).mono ?_
  rintro e w3 ⟨ra, rfl, hra, rdra, hcra, hzra⟩
  have rab := hra (by omega)
  have i1 := i0.step N rdra hcra
  clear rdra hcra hzra hra i0
  go_wp2_with fail
  go_loopw [4] (fun i wr => ∃ j kk : Nat, j ≤ 13 ∧ i = .int .i64 j ∧ kk + 3 * j ≤ k + 50 ∧ SpInv w p A n c zs w.heap.size w1.heap.size g h cg ch kk wr) (fun i _ => (intOf i).toNat)
  case atStart => exact ⟨ra, _, by omega, rfl, by omega, i1⟩
  case round =>
    clear i1
    obtain ⟨j, kk, hj, rfl, hkk, iv⟩ := hrel
    by_cases hjp : 0 < j
    · have hj0 : (0 : Int) < (j : Int) := by omega
      go_upto_block 1 with fail
      go_cut [5] (fun s wx => SpInv w p A n c zs w.heap.size w1.heap.size g h cg ch (kk + 1 + 1 + 1) wx)
      case rest =>
        rename World => w9
        go_wp2_with fail
        go_roundw
        case rel => exact ⟨j - 1, _, by omega, by rw [show ((j - 1 : Nat) : Int) = (j : Int) - 1 by omega], by omega, hcut⟩
        case measure => simp [intOf]; omega
      case first =>
        go_wp2_with fail
        refine (pick_any _ p A n c zs _ 12 iv.rd (by omega) (by omega) (by omega)).mono ?_
        rintro e w4 ⟨rb, rfl, hrb, rdrb, hcrb, hzrb⟩
        have rbb := hrb (by omega)
        have iv2 := iv.step N rdrb hcrb
        clear rdrb hcrb hzrb hrb iv
        have hix : (8 + (rb : Int)).toNat = 8 + rb := by omega
        obtain ⟨ca2, cb2⟩ := iv2.cb
        obtain ⟨xg2, eg2, fg2, lg2, ug2⟩ := iv2.at1 (j := 8 + rb) (by omega)
        obtain ⟨xh2, eh2, fh2⟩ := iv2.at2 (j := 8 + rb) (by omega)
        go_upto_region 6 with fail
        go_cut [5] (fun s wx => s = .int .i64 (8 + (rb : Int)) ∧ SpInv w p A n c zs w.heap.size w1.heap.size g h cg ch (kk + 1 + 1) wx)
        case first =>
          have iv3 := iv2.drew
          go_region_with (go_at_call 48; refine (pick_any _ p A n c zs _ 3 iv3.rd (by omega) (by omega) (by omega)).mono ?_; rintro e w5 ⟨rc, rfl, hrc, rdrc, hcrc, hzrc⟩; have rcb := hrc (by omega); have iv4 := iv3.step N rdrc hcrc; obtain ⟨ca4, cb4⟩ := iv4.cb; obtain ⟨xg4, eg4, fg4, lg4, ug4⟩ := iv4.at1 (j := 8 + rb) (by omega); obtain ⟨xh4, eh4, fh4⟩ := iv4.at2 (j := 8 + rb) (by omega))
          all_goals (go_wp2_with fail; go_meet; exact ⟨rfl, iv4.set1 N HO.out (by omega) _ (by omega)⟩)
        case rest =>
          clear ca2 cb2 eg2 fg2 eh2 fh2
          clear iv2
          obtain ⟨rfl, iv5⟩ := hcut
          rename World => w6
          obtain ⟨ca5, cb5⟩ := iv5.cb
          obtain ⟨xg5, eg5, fg5, lg5, ug5⟩ := iv5.at1 (j := 8 + rb) (by omega)
          obtain ⟨xh5, eh5, fh5⟩ := iv5.at2 (j := 8 + rb) (by omega)
          go_wp2_with fail
          have iv6 := iv5.drew
          go_region_with (go_at_call 48; refine (pick_any _ p A n c zs _ 4 iv6.rd (by omega) (by omega) (by omega)).mono ?_; rintro e w7 ⟨rd, rfl, hrd, rdrd, hcrd, hzrd⟩; have rdb := hrd (by omega); have iv7 := iv6.step N rdrd hcrd; obtain ⟨ca7, cb7⟩ := iv7.cb; obtain ⟨xg7, eg7, fg7, lg7, ug7⟩ := iv7.at1 (j := 8 + rb) (by omega); obtain ⟨xh7, eh7, fh7⟩ := iv7.at2 (j := 8 + rb) (by omega); have hw7 : IntKind.i64.wrap (xg7 + (rd : Int)) = xg7 + rd := (by rw [IntWalk.i64_in _ (by omega)]); have hw5 : IntKind.i64.wrap (xg5 + (rd : Int)) = xg5 + rd := (by rw [IntWalk.i64_in _ (by omega)]))
          all_goals (go_wp2_with fail; go_meet; exact iv7.set2 N HO.out (by omega) _)
    · have hj0 : ¬ ((0 : Int) < (j : Int)) := by omega
      go_wp2_with fail
      refine (pick_any _ p A n c zs _ 12 iv.rd (by omega) (by omega) (by omega)).mono ?_
      rintro e w4 ⟨rb, rfl, hrb, rdrb, hcrb, hzrb⟩
      have rbb := hrb (by omega)
      have iv2 := iv.step N rdrb hcrb
      clear rdrb hcrb hzrb hrb iv
      clear hj0 hjp hj
      go_upto_if 38 with fail
      go_cut [6] (fun s wx => SpSome w p A n c zs w.heap.size w1.heap.size g h cg ch (kk + 2) wx)
      case first =>
        by_cases hrb : rb = 0
        · have e0 : ((rb : Int) == 0) = true := by simp [hrb]
          clear hrb
          go_wp2_with fail
          go_loopw [6] (fun i wr => ∃ j : Nat, j ≤ 56 ∧ i = .int .i64 (8 + (j : Int)) ∧ SpInv w p A n c zs w.heap.size w1.heap.size g h cg ch (kk + 1) wr) (fun i _ => 64 - (intOf i).toNat)
          case atStart => exact ⟨0, by omega, by go_num, iv2⟩
          case round =>
            clear iv2
            obtain ⟨j, hj, rfl, iv⟩ := hrel
            by_cases hjp : j < 56
            · have hj0 : (8 : Int) + (j : Int) < 64 := by omega
              have hix : (8 + (j : Int)).toNat = 8 + j := by omega
              obtain ⟨ca3, cb3⟩ := iv.cb
              obtain ⟨xg3, eg3, fg3, lg3, ug3⟩ := iv.at1 (j := 8 + j) (by omega)
              obtain ⟨xh3, eh3, fh3⟩ := iv.at2 (j := 8 + j) (by omega)
              have iv3 := iv.set1 N HO.out (j := 8 + j) (by omega) 1 (by omega)
              have iv4 := Lib.hid (iv3.set2 N HO.out (j := 8 + j) (by omega) (1 + (8 + (j : Int)) % 3))
              clear iv3 iv
              go_wp2_with fail
              go_roundw
              case rel => exact ⟨j + 1, by omega, by go_num, iv4.out⟩
              case measure => simp [intOf]; omega
            · have hj0 : ¬ ((8 : Int) + (j : Int) < 64) := by omega
              go_wp2_with fail
              refine (pick_any _ p A n c zs _ 2 iv.rd (by omega) (by omega) (by omega)).mono ?_
              rintro e w5 ⟨rc, rfl, hrc, rdrc, hcrc, hzrc⟩
              have rcb := hrc (by omega)
              have iv5 := iv.step N rdrc hcrc
              clear rdrc hcrc hzrc hrc iv
              obtain ⟨ca6, cb6⟩ := iv5.cb
              obtain ⟨xg6, eg6, fg6, lg6, ug6⟩ := iv5.at1 (j := 20) (by omega)
              obtain ⟨xh6, eh6, fh6⟩ := iv5.at2 (j := 20) (by omega)
              by_cases hrc : rc = 0
              · have e1 : ((rc : Int) == 0) = true := by simp [hrc]
                clear hrc
                have iv6 := Lib.hid ((iv5.set1 N HO.out (j := 20) (by omega) 0 (by omega)).set2 N HO.out (j := 20) (by omega) 0)
                clear iv5
                go_wp2_with fail
                go_meet
                exact ⟨_, by omega, iv6.out⟩
              · have e1 : ((rc : Int) == 0) = false := by simp [hrc]
                clear hrc
                go_wp2_with fail
                go_meet
                exact ⟨_, by omega, iv5⟩
        · have e0 : ((rb : Int) == 0) = false := by simp [hrb]
          clear hrb
          go_wp2_with fail
          go_meet
          exact ⟨_, by omega, iv2⟩
      case rest =>
        clear iv2
        obtain ⟨k2, hk2, iv9⟩ := hcut
        rename World => w9
        go_wp2_with fail
        refine (pick_any _ p A n c zs _ 24 iv9.rd (by omega) (by omega) (by omega)).mono ?_
        rintro e wa ⟨rz, rfl, hrz, rdrz, hcrz, hzrz⟩
        have rzb := hrz (by omega)
        have iz := iv9.step N rdrz hcrz
        clear rdrz hcrz hzrz hrz iv9
        rcases (show rz = 0 ∨ rz = 1 ∨ rz = 2 ∨ rz = 3 ∨ 4 ≤ rz by omega) with h0 | h0 | h0 | h0 | h0
        · subst h0
          obtain ⟨caz, cbz⟩ := iz.cb
          obtain ⟨xgz, egz, fgz, lgz, ugz⟩ := iz.at1 (j := 0) (by omega)
          obtain ⟨xhz, ehz, fhz⟩ := iz.at2 (j := 0) (by omega)
          obtain ⟨bfz, qaz, qbz, qfz⟩ := iz.bq
          go_wp2_with fail
          have id := iz.drew
          go_region_with (first
            | (go_at_call_of 48 (Value.int .i64 64); refine (pick_any _ p A n c zs _ 64 (by exact id.rd) (by omega) (by omega) (by omega)).mono ?_; rintro e wb ⟨rx, rfl, hrx, rdrx, hcrx, hzrx⟩; have rxb := hrx (by omega); clear hzrx; have ix := id.step N rdrx hcrx; obtain ⟨cax, cbx⟩ := ix.cb; obtain ⟨xgx, egx, fgx, lgx, ugx⟩ := ix.at1 (j := rx) (by omega); obtain ⟨xhx, ehx, fhx⟩ := ix.at2 (j := rx) (by omega))
            | (go_at_call_of 48 (Value.int .i64 4); refine (pick_any _ p A n c zs _ 4 (by exact ix.rd) (by omega) (by omega) (by omega)).mono ?_; rintro e wc2 ⟨ry, rfl, hry, rdry, hcry, hzry⟩; have ryb := hry (by omega); clear hzry; have iy := ix.step N rdry hcry; obtain ⟨cay, cby⟩ := iy.cb; obtain ⟨xgy, egy, fgy, lgy, ugy⟩ := iy.at1 (j := rx) (by omega); obtain ⟨xhy, ehy, fhy⟩ := iy.at2 (j := rx) (by omega); obtain ⟨bfy, qay, qby, qfy⟩ := iy.bq))
          all_goals
            go_wp2_with fail
            have ie := iy.set1 N HO.out (j := rx) (by omega) ((ry : Int) - 1) (by omega)
            refine bodyPost_ret (v := (.agg #[.slice (some ⟨g, 0, none⟩) 64 cg, .slice (some ⟨h, 0, none⟩) 64 ch])) (by simp [results, Try.results41, go_sem, *]) rfl ?_
            exact ie.finish N HO.out (by omega) _ _
        · subst h0
          obtain ⟨caz, cbz⟩ := iz.cb
          obtain ⟨xgz, egz, fgz, lgz, ugz⟩ := iz.at1 (j := 0) (by omega)
          obtain ⟨xhz, ehz, fhz⟩ := iz.at2 (j := 0) (by omega)
          obtain ⟨bfz, qaz, qbz, qfz⟩ := iz.bq
          go_wp2_with fail
          have id := iz.drew
          have ie := (iz.alloc (.cells #[.int .i64 (-1), .int .i64 901, .int .i64 0] 3)).drew
          obtain ⟨lt1z, lt2z, lt3z, lt4z⟩ := iz.lts
          have hpa : p ≠ wa.heap.size := by have := iz.rd.2.2.2.1; omega
          go_region_with (first
            | (go_at_call_of 48 (Value.int .i64 64); refine (pick_any _ p A n c zs _ 64 (by first | exact id.rd | exact ie.rd) (by omega) (by omega) (by omega)).mono ?_; rintro e wb ⟨rx, rfl, hrx, rdrx, hcrx, hzrx⟩; have rxb := hrx (by omega); clear hzrx; have ix : SpInv w p A n c zs w.heap.size w1.heap.size g h cg ch _ wb := (by first | exact id.step N rdrx hcrx | exact ie.step N rdrx hcrx); (try have lb : ∀ r, r < 3 → ∃ x : Int, wb.cell? ⟨wa.heap.size, r, none⟩ = some (.int .i64 x) := fun r hr => list3_cell (W := wa.drew) hcrx rfl hpa hr); obtain ⟨cax, cbx⟩ := ix.cb; obtain ⟨xgx, egx, fgx, lgx, ugx⟩ := ix.at1 (j := rx) (by omega); obtain ⟨xhx, ehx, fhx⟩ := ix.at2 (j := rx) (by omega); obtain ⟨lt1x, lt2x, lt3x, lt4x⟩ := ix.lts)
            | (go_at_call_of 48 (Value.int .i64 3); refine (pick_any _ p A n c zs _ 3 (by first | exact ix.rd | exact (ix.alloc _).rd) (by omega) (by omega) (by omega)).mono ?_; rintro e wc2 ⟨ry, rfl, hry, rdry, hcry, hzry⟩; have ryb := hry (by omega); clear hzry; have iy : SpInv w p A n c zs w.heap.size w1.heap.size g h cg ch _ wc2 := (by first | exact ix.step N rdry hcry | exact (ix.alloc _).step N rdry hcry); (try (obtain ⟨xl, hxl⟩ := lb ry (by omega); have hxl2 := chg_cell hcry hxl hpa)); (try (obtain ⟨xm, hxm⟩ : ∃ x : Int, wc2.cell? ⟨wb.heap.size, ry, none⟩ = some (.int .i64 x) := list3_cell (W := wb) hcry rfl (by have := ix.rd.2.2.2.1; omega) (by omega))); obtain ⟨xa, hxa⟩ := list3_get ry (by omega); obtain ⟨cay, cby⟩ := iy.cb; obtain ⟨xgy, egy, fgy, lgy, ugy⟩ := iy.at1 (j := rx) (by omega); obtain ⟨xhy, ehy, fhy⟩ := iy.at2 (j := rx) (by omega); obtain ⟨bfy, qay, qby, qfy⟩ := iy.bq; obtain ⟨lt1y, lt2y, lt3y, lt4y⟩ := iy.lts))
          all_goals
            go_wp2_with fail
            first
              | (have ie := iy.set2 N HO.out (j := rx) (by omega) xl
                 refine bodyPost_ret (v := (.agg #[.slice (some ⟨g, 0, none⟩) 64 cg, .slice (some ⟨h, 0, none⟩) 64 ch])) (by simp [results, Try.results41, go_sem, *]) rfl ?_
                 exact ie.finish N HO.out (by omega) _ _)
              | (have ie := iy.set2 N HO.out (j := rx) (by omega) xm
                 refine bodyPost_ret (v := (.agg #[.slice (some ⟨g, 0, none⟩) 64 cg, .slice (some ⟨h, 0, none⟩) 64 ch])) (by simp [results, Try.results41, go_sem, *]) rfl ?_
                 exact ie.finish N HO.out (by omega) _ _)
              | (have ie := iy.set2 N HO.out (j := rx) (by omega) xa
                 refine bodyPost_ret (v := (.agg #[.slice (some ⟨g, 0, none⟩) 64 cg, .slice (some ⟨h, 0, none⟩) 64 ch])) (by simp [results, Try.results41, go_sem, *]) rfl ?_
                 have ig := ie.finish (k := k) N HO.out (by omega) (.slice (some ⟨g, 0, none⟩) 64 cg) (.slice (some ⟨h, 0, none⟩) 64 ch)
                 exact ig.alloc _)
        · subst h0
          obtain ⟨caz, cbz⟩ := iz.cb
          obtain ⟨bfz, qaz, qbz, qfz⟩ := iz.bq
          obtain ⟨xs2, ys2, o1, o2⟩ := iz.own
          have hcg := o1.2.1
          have hcg1 : ¬ cg = 1 := by omega
          have hcg2 : ((cg : Int) == 1) = false := by simp; omega
          go_wp2_with fail
          refine bodyPost_ret (v := .agg #[.slice (some ⟨g, 1, none⟩) 63 (cg - 1), .slice (some ⟨h, 0, none⟩) 64 ch]) (by simp [results, Try.results41, go_sem, *]) rfl ?_
          refine SpDrawn.mk_ (((iz.rd.store HO.out hpl (a := ⟨w1.heap.size, 0, none⟩) (by simpa using m3) _).store HO.out hpl (a := ⟨w.heap.size, 0, none⟩) (by simp) _).store HO.out hpl (a := ⟨w.heap.size, 1, none⟩) (by simp) _) (by omega) (((iz.chg.setCell (.inr (by simpa using m3)) _).setCell (.inr (by simp)) _).setCell (.inr (by simp)) _)
            (((o1.drop1.store (fun b off hA => ?_) _).store (fun b off hA => ?_) _).store (fun b off hA => ?_) _) (((o2.at_.store (fun b off hA => ?_) _).store (fun b off hA => ?_) _).store (fun b off hA => ?_) _) (fun e => by cases e) (fun e => by cases e) (by omega) o2.2.1 (fun b off hA => ?_) (fun b off hA => ?_)
          all_goals (injection hA with e; injection e with e1 e2; subst e1; (try simp only); omega)
        · subst h0
          obtain ⟨caz, cbz⟩ := iz.cb
          obtain ⟨bfz, qaz, qbz, qfz⟩ := iz.bq
          obtain ⟨xs2, ys2, o1, o2⟩ := iz.own
          have hown := (o2.row (base := w.heap.size) (by omega)).alloc (.cells #[.int .i64 0] 3)
          have HOWN := Lib.hid hown
          clear hown
          obtain ⟨i0, hi, hz0, hz1, hz2⟩ := info_parts info_int'
          have hsz : w.heap.size ≤ wa.heap.size := iz.chg.size
          have O1 := Lib.hid o1
          have O2 := Lib.hid o2
          have lh3 := o2.lt
          have lg3 := o1.lt
          clear o1 o2
          go_wp2_with (at_builtin; go_must (refine wpList_append_own _ rfl _ _ 23 rfl w.heap.size 3 i0 (.int .i64 0) 1 8 Try.underlying23 hi hz0 hz1 hz2 rfl (by decide) (.slice (some ⟨h, 0, none⟩) 64 ch) 64 (ys2.map (Value.int .i64)) rfl HOWN.out ⟨wa.heap.size, 0, none⟩ 1 1 [.int .i64 0] rfl rfl (cell_one_new _ _ _) (by intro u hu; simp at hu; subst hu; rfl) (by unfold maxLen; omega) (by omega) (by simp; omega) ?_); intro v' wd hown' hgrow _; obtain ⟨A', c', S', hv', hrow', hS', hn', _⟩ := ownRow_of hown'; subst hv'; have kb : ∀ t, t < wa.heap.size → t ≠ h → wd.heap[t]? = wa.heap[t]? := (fun t h1 h2 => (hgrow.block t (by simp; omega) (by simp [Value.ownBlock]; omega)).trans (Below.heap_alloc _ _ _ h1)); have sd := hgrow.size; have d0 := (World.cell?_of_block (a := ⟨w1.heap.size, 0, none⟩) (kb _ iz.lb (by omega))).trans caz; have d1 := (World.cell?_of_block (a := ⟨w1.heap.size, 1, none⟩) (kb _ iz.lb (by omega))).trans cbz; have d2 := (fun j => (World.frozen?_of_block (a := ⟨w1.heap.size, j, none⟩) (kb _ iz.lb (by omega))).trans (bfz j)); have d3 := (World.cell?_of_block (a := ⟨w.heap.size, 0, none⟩) (kb _ iz.lq (by omega))).trans qaz; have d4 := (World.cell?_of_block (a := ⟨w.heap.size, 1, none⟩) (kb _ iz.lq (by omega))).trans qbz; have d5 := (fun j => (World.frozen?_of_block (a := ⟨w.heap.size, j, none⟩) (kb _ iz.lq (by omega))).trans (qfz j)))
          have hrow2 : OwnRow wd 3 1 S' A' 65 c' ((ys2 ++ [0]).map (Value.int .i64)) := by simpa using hrow'
          obtain ⟨g', rfl, rfl, og'⟩ := (ownS_of_ownRow hrow2 (by omega)).pos (by omega)
          have hg' : w.heap.size ≤ g' := hS' g' (by simp)
          have hx0 := og'.cell (j := 0) (by omega)
          have hgb : g' ≠ w1.heap.size := by intro e; rw [e, d0] at hx0; cases hx0
          have hgq : g' ≠ w.heap.size := by intro e; rw [e, d3] at hx0; cases hx0
          have sd2 : wa.heap.size + 1 ≤ wd.heap.size := by simpa using sd
          have rdd : Rd wd p A n c zs (k2 + 1) := iz.rd.keep (by omega) fun t ht hh => kb t ht (by rcases hh with rfl | ⟨hn, off, hA⟩; omega; have := HO.out t off hn hA; omega)
          have chd : Chg (· ∈ [p]) w wd := chg_grown iz.chg hgrow (by simp [Value.ownBlock]) m5
          have o1d : OwnI wd g 64 cg xs2 := O1.out.keep (kb g lg3 hgh)
          refine bodyPost_ret (v := .agg #[.slice (some ⟨g, 0, none⟩) 64 cg, .slice (some ⟨g', 0, none⟩) 65 c']) (by simp [results, Try.results41, go_sem, *]) rfl ?_
          refine SpDrawn.mk_ (((rdd.store HO.out hpl (a := ⟨w1.heap.size, 1, none⟩) (by simpa using m3) _).store HO.out hpl (a := ⟨w.heap.size, 0, none⟩) (by simp) _).store HO.out hpl (a := ⟨w.heap.size, 1, none⟩) (by simp) _) (by omega) (((chd.setCell (.inr (by simpa using m3)) _).setCell (.inr (by simp)) _).setCell (.inr (by simp)) _)
            (((o1d.at_.store (fun b off hA => ?_) _).store (fun b off hA => ?_) _).store (fun b off hA => ?_) _) (((og'.at_.store (fun b off hA => ?_) _).store (fun b off hA => ?_) _).store (fun b off hA => ?_) _) (fun e => by cases e) (fun e => by cases e) o1d.2.1 og'.2.1 (fun b off hA => ?_) (fun b off hA => ?_)
          all_goals (injection hA with e; injection e with e1 e2; subst e1; (try simp only); omega)
        · have z0_ : ((rz : Int) == 0) = false := by simp; omega
          have z1_ : ((rz : Int) == 1) = false := by simp; omega
          have z2_ : ((rz : Int) == 2) = false := by simp; omega
          have z3_ : ((rz : Int) == 3) = false := by simp; omega
          obtain ⟨caz, cbz⟩ := iz.cb
          obtain ⟨bfz, qaz, qbz, qfz⟩ := iz.bq
          go_wp2_with fail
          refine bodyPost_ret (v := (.agg #[.slice (some ⟨g, 0, none⟩) 64 cg, .slice (some ⟨h, 0, none⟩) 64 ch])) (by simp [results, Try.results41, go_sem, *]) rfl ?_
          exact iz.finish N HO.out (by omega) _ _
end Go.Proofs.Ytbfdbkidmakapaa
