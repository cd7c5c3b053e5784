/- append onto a slice of the call's own, from whatever source: one law for all its ways. Condition: room below Go's bounds. -/
import Derived.WalkKit
import Derived.WalkSpells
import Derived.WalkLawsBesides
import Derived.Lib.Hide
import Derived.Deep.QuietTactic
import Derived.BigQuiet
import Derived.Deep.Draws
import Derived.Orders
import Derived.Below
import Derived.Lib.SliceRun
import Derived.Maps.AppendAt
import Derived.Deep.DeepMust
import Derived.Deep.RegionWith
import Derived.Deep.RegionLawGrows
set_option linter.unnecessarySimpa false
set_option linter.unusedSimpArgs false
set_option linter.unusedVariables false
namespace Go.Proofs.YtjnhiiaejeaikaaGreatDoor
theorem zG0 {α : Type} {x d : α} {l : List α} : (x :: l).getD 0 d = x := rfl
theorem zG1 {α : Type} {x d : α} {l : List α} {n : Nat} : (x :: l).getD (n + 1) d = l.getD n d := rfl
theorem zS2 {α : Type} {l : List α} {i : Nat} {a : α} : l.toArray.setIfInBounds i a = (l.set i a).toArray := List.setIfInBounds_toArray _ _ _
theorem zS0 {α : Type} {x a : α} {l : List α} : (x :: l).set 0 a = a :: l := rfl
theorem zS1 {α : Type} {x a : α} {l : List α} {n : Nat} : (x :: l).set (n + 1) a = x :: l.set n a := rfl
section
open Go.RowKit
def IntsAt (w : World) (A : Option Addr) (n : Nat) (xs : List Int) : Prop :=
 xs.length = n ∧ n ≤ maxLen ∧ (0 < n → ∃ b off, A = some ⟨b, off, none⟩ ∧ ∀ j, j < n → w.cell? ⟨b, off + j, none⟩ = some (.int .i64 (xs.getD j 0)))
theorem IntsAt.at_ {w : World} {A : Option Addr} {n : Nat} {xs : List Int} (h : IntsAt w A n xs) {k : Nat} (hk : k < n) :
 ∃ b off, A = some ⟨b, off, none⟩ ∧ b < w.heap.size ∧ ∀ j, j < n → w.cell? ⟨b, off + j, none⟩ = some (.int .i64 (xs.getD j 0)) := by
 obtain ⟨_, _, h3⟩ := h
 obtain ⟨b, off, hA, hc⟩ := h3 (by omega)
 exact ⟨b, off, hA, World.block_lt_of_cell? w _ (hc k hk), hc⟩
theorem IntsAt.len {w : World} {A : Option Addr} {n : Nat} {xs : List Int} (h : IntsAt w A n xs) : xs.length = n := h.1
theorem IntsAt.max {w : World} {A : Option Addr} {n : Nat} {xs : List Int} (h : IntsAt w A n xs) : n ≤ 9223372036854775807 := by
 have := h.2.1; unfold maxLen at this; exact this
def Quiet (w w' : World) : Prop := ∃ q, w' = w.drewN q
theorem Quiet.refl (w : World) : Quiet w w := ⟨0, rfl⟩
theorem Quiet.drewN {w w' : World} (h : Quiet w w') (n : Nat) : Quiet w (w'.drewN n) := by
 obtain ⟨q, rfl⟩ := h
 exact ⟨q + n, by rw [World.drewN_drewN]⟩
theorem Quiet.below {w w' : World} (h : Quiet w w') (B : Nat) : Below B w w' := by
 obtain ⟨q, rfl⟩ := h
 exact ⟨rfl, rfl, rfl, Nat.le_refl _, fun _ _ => rfl⟩
def SameW (a b : World) : Prop := a = b
theorem SameW.out {a b : World} (h : SameW a b) : a = b := h
theorem SameW.refl (a : World) : SameW a a := rfl
theorem ret_bool {a b : Bool} (h : a = b) : Ending.returned (.bool a) = .returned (.bool b) := by rw [h]
theorem ret_int {k : IntKind} {a b : Int} (h : a = b) : Ending.returned (.int k a) = .returned (.int k b) := by rw [h]
theorem ret_str {a b : ByteArray} (h : a = b) : Ending.returned (.string a) = .returned (.string b) := by rw [h]
theorem quiet_add_left {P : Program} {f : FuncId} {args : Array Value} {w : World} {a n : Nat} {v : Value}
 (h : Calls P f args (w.drewN (a + n)) fun e w' => e = .returned v ∧ w.drewN (a + n) = w') :
 Calls P f args (w.drewN (a + n)) fun e w'' => e = .returned v ∧ ∃ m, w'' = w.drewN (a + m) :=
 h.mono fun _ _ ⟨he, hm⟩ => ⟨he, n, hm.symm⟩
def eqInts (xs ys : List Int) : Bool := decide (xs = ys)
theorem eqInts_iff (xs ys : List Int) : eqInts xs ys = true ↔ xs = ys := by unfold eqInts; simp
theorem below_drewN {B : Nat} {a w : World} (h : Below B a w) (n : Nat) : Below B a (w.drewN n) := ⟨h.os, h.tape, h.output, h.size, h.block⟩
def OwnI (w : World) (g n c : Nat) (xs : List Int) : Prop :=
 xs.length = n ∧ n ≤ c ∧ (c ≤ maxLen ∧ n ≤ 140737488355328) ∧ ∃ cur : Array Value, w.heap[g]? = some (.cells cur 3 (0, 0)) ∧ cur.size = c ∧ ∀ j, j < n → cur[j]? = some (.int .i64 (xs.getD j 0))
section
variable {w w' : World} {g n c : Nat} {xs : List Int}
theorem OwnI.len (h : OwnI w g n c xs) : xs.length = n := h.1
theorem OwnI.lt (h : OwnI w g n c xs) : g < w.heap.size := by
 obtain ⟨_, _, _, cur, hg, _⟩ := h
 exact (Array.getElem?_eq_some_iff.1 hg).1
theorem OwnI.cell (h : OwnI w g n c xs) {j : Nat} (hj : j < n) : w.cell? ⟨g, j, none⟩ = some (.int .i64 (xs.getD j 0)) := by
 obtain ⟨_, _, _, cur, hg, _, hc⟩ := h
 exact (cell_of_row w g j cur _ (0, 0) hg).trans (hc j hj)
theorem OwnI.frozen (h : OwnI w g n c xs) (j : Nat) : w.frozen? ⟨g, j, none⟩ = false := by
 obtain ⟨_, _, _, cur, hg, _⟩ := h
 simp [World.frozen?, hg]
theorem OwnI.keep (h : OwnI w g n c xs) (hk : w'.heap[g]? = w.heap[g]?) : OwnI w' g n c xs := by
 obtain ⟨h1, h2, h3, cur, hg, h4⟩ := h
 exact ⟨h1, h2, h3, cur, hk.trans hg, h4⟩
theorem OwnI.below (h : OwnI w g n c xs) (hb : Below w.heap.size w w') : OwnI w' g n c xs := h.keep (hb.block g h.lt)
theorem OwnI.set_ (h : OwnI w g n c xs) {j : Nat} (hj : j < n) (x : Int) : OwnI (w.setCell ⟨g, j, none⟩ (.int .i64 x)) g n c (xs.set j x) := by
 obtain ⟨h1, h2, h3, cur, hg, h4, h5⟩ := h
 refine ⟨by simpa using h1, h2, h3, cur.setIfInBounds j (.int .i64 x), ?_, by simpa using h4, fun i hi => ?_⟩
 · simp [World.setCell, Array.getElem?_modify, hg]
 rw [Array.getElem?_setIfInBounds]
 by_cases hij : j = i
 · subst hij
   rw [if_pos rfl, if_pos (by omega)]
   simp [List.getD, List.getElem?_set, h1, hj]
 rw [if_neg hij, h5 i hi]
 simp [List.getD, List.getElem?_set, hij]
theorem OwnI.alloc (h : OwnI w g n c xs) (o : Obj) : OwnI (w.alloc o) g n c xs := h.keep (Below.heap_alloc w o g h.lt)
theorem OwnI.drewN (h : OwnI w g n c xs) (q : Nat) : OwnI (w.drewN q) g n c xs := h
theorem OwnI.new {w : World} {cur : Array Value} {xs : List Int} {g n : Nat} (h0 : cur.toList = xs.map (Value.int .i64)) (hm : cur.size ≤ 140737488355328) (hg : g = w.heap.size) (hn : n = cur.size) :
 OwnI (w.alloc (.cells cur 3)) g n n xs := by
 subst hg hn
 have hl : xs.length = cur.size := by have := congrArg List.length h0; simpa using this.symm
 refine ⟨hl, Nat.le_refl _, ⟨by unfold maxLen; omega, hm⟩, cur, heap_alloc_new w _, rfl, fun j hj => ?_⟩
 have hj2 : j < xs.length := by omega
 have e : cur[j]? = cur.toList[j]? := by simp
 rw [e, h0]
 simp [List.getD, hj2]
end
def OwnS (w : World) (S : List Nat) (A : Option Addr) (n c : Nat) (xs : List Int) : Prop :=
 (S = [] ∧ n = 0 ∧ xs = [] ∧ (A = none → c = 0)) ∨ (∃ g, S = [g] ∧ A = some ⟨g, 0, none⟩ ∧ OwnI w g n c xs)
section
variable {w w' : World} {S : List Nat} {A : Option Addr} {n c : Nat} {xs : List Int}
theorem OwnS.lt (h : OwnS w S A n c xs) : ∀ k ∈ S, k < w.heap.size := by
 rcases h with ⟨rfl, _⟩ | ⟨g, rfl, _, h⟩
 · simp
 simpa using h.lt
end
structure Chg (S : Nat → Prop) (w w' : World) : Prop where
 os : w'.os = w.os
 tape : w'.tape = w.tape
 output : w'.output = w.output
 size : w.heap.size ≤ w'.heap.size
 block : ∀ k, k < w.heap.size → ¬ S k → w'.heap[k]? = w.heap[k]?
section
variable {S T : Nat → Prop} {w w' a b c : World}
theorem Chg.refl (S : Nat → Prop) (w : World) : Chg S w w := ⟨rfl, rfl, rfl, Nat.le_refl _, fun _ _ _ => rfl⟩
theorem Chg.trans (h : Chg S a b) (k : Chg S b c) : Chg S a c :=
 ⟨k.os.trans h.os, k.tape.trans h.tape, k.output.trans h.output, Nat.le_trans h.size k.size, fun i hi hs => (k.block i (Nat.lt_of_lt_of_le hi h.size) hs).trans (h.block i hi hs)⟩
theorem Chg.mono (h : Chg S a b) (hST : ∀ k, k < a.heap.size → S k → T k) : Chg T a b := ⟨h.os, h.tape, h.output, h.size, fun k hk ht => h.block k hk fun hs => ht (hST k hk hs)⟩
theorem Chg.drewN (h : Chg S a b) (n : Nat) : Chg S a (b.drewN n) := ⟨h.os, h.tape, h.output, h.size, h.block⟩
theorem Chg.alloc (h : Chg S a b) (o : Obj) : Chg S a (b.alloc o) :=
 h.trans ⟨rfl, rfl, rfl, by simp, fun k hk _ => Below.heap_alloc _ _ _ hk⟩
theorem Chg.setCell (h : Chg S a b) {p : Addr} (hp : S p.block ∨ a.heap.size ≤ p.block) (u : Value) : Chg S a (b.setCell p u) :=
 ⟨h.os, h.tape, h.output, by simpa [World.setCell] using h.size, fun k hk hs => (Below.heap_setCell b p u k (by
  rintro rfl
  rcases hp with hp | hp
  · exact hs hp
  · omega)).trans (h.block k hk hs)⟩
theorem Chg.of_below (h : Below a.heap.size a b) (S : Nat → Prop) : Chg S a b := ⟨h.os, h.tape, h.output, h.size, fun k hk _ => h.block k hk⟩
theorem Chg.below {B : Nat} (h : Chg S a b) (hS : ∀ k, k < a.heap.size → S k → B ≤ k) (hB : B ≤ a.heap.size) : Below B a b :=
 ⟨h.os, h.tape, h.output, h.size, fun k hk => h.block k (by omega) fun hs => by have := hS k (by omega) hs; omega⟩
end
end
section
open Go.RowKit
def fillL (y : Nat → Value) : Nat → List Value → List Bool → List Value
 | _, [], _ => []
 | _, x :: xs, [] => x :: xs
 | k, x :: xs, b :: bs => (bif b then y k else x) :: fillL y (k + 1) xs bs
theorem fillL_length (y : Nat → Value) : ∀ (k : Nat) (xs : List Value) (bs : List Bool), (fillL y k xs bs).length = xs.length
 | _, [], _ => rfl
 | _, _ :: _, [] => rfl
 | k, _ :: xs, _ :: bs => by simp [fillL, fillL_length y (k + 1) xs bs]
theorem fillL_get (y : Nat → Value) : ∀ (xs : List Value) (bs : List Bool) (k i : Nat),
 (fillL y k xs bs)[i]? = if bs.getD i false then (xs[i]?).map (fun _ => y (k + i)) else xs[i]?
 | [], bs, k, i => by simp [fillL]
 | x :: xs, [], k, i => by simp [fillL]
 | x :: xs, b :: bs, k, 0 => by cases b <;> simp [fillL]
 | x :: xs, b :: bs, k, i + 1 => by
   have := fillL_get y xs bs (k + 1) i
   simp only [fillL, List.getElem?_cons_succ, this, List.getD_cons_succ]
   rw [show k + 1 + i = k + (i + 1) by omega]
def Ext (w w' : World) : Prop := Below w.heap.size w w'
theorem Ext.refl (w : World) : Ext w w := Below.refl _ _
theorem Ext.trans {a b c : World} (h : Ext a b) (k : Ext b c) : Ext a c := Below.trans h (Below.mono k (Below.size h))
theorem Ext.drew (w : World) : Ext w w.drew := Below.drew (Below.refl _ _)
theorem Ext.alloc (w : World) (o : Obj) : Ext w (w.alloc o) := (Below.refl _ _).alloc (Nat.le_refl _) _
structure StP where
 p : Value → World → Prop
 ext : ∀ v w w', Ext w w' → p v w → p v w'
def StP.is (V : Value) : StP := ⟨fun v _ => v = V, fun _ _ _ _ h => h⟩
def StP.any : StP := ⟨fun _ _ => True, fun _ _ _ _ h => h⟩
def RgFacts (D : List (Option Nat)) (Φ : List StP) (y : Nat → Value) (w : World) : List Nat → Prop
 | [] => True
 | j :: js => (match D.getD j none with
    | some d => (Φ.getD j .any).p (y d) w
    | none => True) ∧ RgFacts D Φ y w js
theorem RgFacts.of {D : List (Option Nat)} {Φ : List StP} {y : Nat → Value} {w : World} :
 ∀ {js : List Nat}, (∀ j ∈ js, ∀ d, D.getD j none = some d → (Φ.getD j .any).p (y d) w) → RgFacts D Φ y w js
 | [], _ => trivial
 | j :: js, h => by
   refine ⟨?_, RgFacts.of fun k hk => h k (List.mem_cons_of_mem _ hk)⟩
   have := h j (List.mem_cons_self ..)
   split
   · rename_i d hd; exact this d hd
   trivial
section
variable (P : Program) (ops : Array Oper) (Q : Exit → Act → World → Prop) (w0 : World) (T : List Value) (ds : List Deferred) (mask : List Bool)
 (D : List (Option Nat)) (Φ : List StP) (A : List (List Nat))
def RgOb (i : Nat) (o : Oper) : Prop :=
 ∀ y w, Ext w0 w → RgFacts D Φ y w (A.getD i []) →
  ∀ K : Act → World → Prop, (∀ v w', Ext w w' → (Φ.getD i .any).p v w' → K ((⟨(fillL y 0 T mask).toArray, ds⟩ : Act).put o.dst v) w') →
   if Region.wanted o (yielded ops (fillL y 0 T mask).toArray) then o.wp P ⟨(fillL y 0 T mask).toArray, ds⟩ w K Q
   else K ((⟨(fillL y 0 T mask).toArray, ds⟩ : Act).put o.dst undef) w
def RgObs : Nat → List Oper → Prop
 | _, [] => True
 | i, o :: os => RgOb P ops Q w0 T ds mask D Φ A i o ∧ RgObs (i + 1) os
end
theorem RgObs.at_ {P : Program} {ops : Array Oper} {Q : Exit → Act → World → Prop} {w0 : World} {T : List Value} {ds : List Deferred} {mask : List Bool}
 {D : List (Option Nat)} {Φ : List StP} {A : List (List Nat)} :
 ∀ {k : Nat} {os : List Oper}, RgObs P ops Q w0 T ds mask D Φ A k os → ∀ i o, os[i]? = some o → RgOb P ops Q w0 T ds mask D Φ A (k + i) o
 | _, [], _, i, o, h => by simp at h
 | k, x :: xs, H, 0, o, h => by
   simp at h; subst h; exact H.1
 | k, x :: xs, H, i + 1, o, h => by
   have := RgObs.at_ H.2 i o (by simpa using h)
   rwa [show k + 1 + i = k + (i + 1) by omega] at this
def ancsOf (ops : List Oper) : List (List Nat) :=
 ops.foldl (fun acc o => acc ++ [((o.after.toList.filter (Region.binds .any)).flatMap fun e => e.on :: acc.getD e.on [])]) []
def rgCheck (ops : Array Oper) (D : List (Option Nat)) (A : List (List Nat)) (mask : List Bool) (len : Nat) : Bool :=
 (D == ops.toList.map (·.dst)) &&
 (ops.toList.zipIdx.all fun (o, i) => o.after.all fun e => !Region.binds .any e || e.on < i) &&
 ((ops.toList.filterMap (·.dst)).all fun d => d < len && mask.getD d false) &&
 ((List.range ops.size).all fun i => (List.range i).all fun j => (D.getD i none).isNone || D.getD i none != D.getD j none) &&
 ((List.range ops.size).all fun i => (A.getD i []).all fun j => ((ancsOf ops.toList).getD i []).contains j)
theorem ancs_listed (os : List Oper) (L : Nat → Prop)
 (hedge : ∀ i o, os[i]? = some o → L i → ∀ e ∈ o.after.toList, Region.binds .any e = true → L e.on) :
 ∀ i, L i → ∀ j ∈ (ancsOf os).getD i [], L j := by
 have key : ∀ (done rest : List Oper) (acc : List (List Nat)), os = done ++ rest → acc.length = done.length →
  (∀ i, L i → ∀ j ∈ acc.getD i [], L j) →
  (∀ i, L i → ∀ j ∈ (rest.foldl (fun acc o => acc ++ [((o.after.toList.filter (Region.binds .any)).flatMap fun e => e.on :: acc.getD e.on [])]) acc).getD i [], L j) := by
  intro done rest
  induction rest generalizing done with
  | nil => intro acc _ _ h; simpa using h
  | cons o rest ih =>
    intro acc hos hlen h
    simp only [List.foldl_cons]
    refine ih (done ++ [o]) _ (by simp [hos]) (by simp [hlen]) ?_
    intro i hi j hj
    rcases Nat.lt_trichotomy i acc.length with hlt | heq | hgt
    · rw [List.getD_eq_getElem?_getD, List.getElem?_append_left hlt, ← List.getD_eq_getElem?_getD] at hj
      exact h i hi j hj
    · subst heq
      rw [List.getD_eq_getElem?_getD, List.getElem?_append_right (Nat.le_refl _)] at hj
      simp only [Nat.sub_self, List.getElem?_cons_zero, Option.getD_some, List.mem_flatMap, List.mem_filter, List.mem_cons] at hj
      obtain ⟨e, ⟨he, hb⟩, hj⟩ := hj
      have hL : L e.on := hedge acc.length o (by rw [hos, hlen]; simp) hi e he hb
      rcases hj with rfl | hj
      · exact hL
      exact h _ hL j hj
    rw [List.getD_eq_getElem?_getD, List.getElem?_append_right (by omega)] at hj
    have : ([((o.after.toList.filter (Region.binds .any)).flatMap fun e => e.on :: acc.getD e.on [])] : List (List Nat))[i - acc.length]? = none := by
     rw [List.getElem?_eq_none]; simp; omega
    rw [this] at hj
    simp at hj
 exact key [] os [] rfl rfl (by simp)
theorem ancs_lt (os : List Oper) (hedge : ∀ i o, os[i]? = some o → ∀ e ∈ o.after.toList, Region.binds .any e = true → e.on < i) :
 ∀ i j, j ∈ (ancsOf os).getD i [] → j < i := by
 intro i j hj
 have := ancs_listed os (fun k => k ≤ i) (fun k o hk hL e he hb => by have := hedge k o hk e he hb; omega) i (Nat.le_refl _) j hj
 rcases Nat.lt_or_eq_of_le this with h | rfl
 · exact h
 exfalso
 have key : ∀ (rest : List Oper) (acc : List (List Nat)) (done : List Oper), os = done ++ rest → acc.length = done.length →
  (∀ k, ∀ m ∈ acc.getD k [], m < k) →
  (∀ k, ∀ m ∈ (rest.foldl (fun acc o => acc ++ [((o.after.toList.filter (Region.binds .any)).flatMap fun e => e.on :: acc.getD e.on [])]) acc).getD k [], m < k) := by
  intro rest
  induction rest with
  | nil => intro acc done _ _ h; simpa using h
  | cons o rest ih =>
    intro acc done hos hlen h
    simp only [List.foldl_cons]
    refine ih _ (done ++ [o]) (by simp [hos]) (by simp [hlen]) ?_
    intro k m hm
    rcases Nat.lt_trichotomy k acc.length with hlt | heq | hgt
    · rw [List.getD_eq_getElem?_getD, List.getElem?_append_left hlt, ← List.getD_eq_getElem?_getD] at hm
      exact h k m hm
    · subst heq
      rw [List.getD_eq_getElem?_getD, List.getElem?_append_right (Nat.le_refl _)] at hm
      simp only [Nat.sub_self, List.getElem?_cons_zero, Option.getD_some, List.mem_flatMap, List.mem_filter, List.mem_cons] at hm
      obtain ⟨e, ⟨he, hb⟩, hm⟩ := hm
      have he2 := hedge acc.length o (by rw [hos, hlen]; simp) e he hb
      rcases hm with rfl | hm
      · exact he2
      have := h _ m hm; omega
    rw [List.getD_eq_getElem?_getD, List.getElem?_append_right (by omega)] at hm
    have : ([((o.after.toList.filter (Region.binds .any)).flatMap fun e => e.on :: acc.getD e.on [])] : List (List Nat))[k - acc.length]? = none := by
     rw [List.getElem?_eq_none]; simp; omega
    rw [this] at hm
    simp at hm
 exact absurd (key os [] [] rfl rfl (by simp) j j hj) (Nat.lt_irrefl _)
structure RgInv (ops : Array Oper) (w0 : World) (T : List Value) (ds : List Deferred) (mask : List Bool) (D : List (Option Nat)) (Φ : List StP) (listed : Array Bool) (a : Act) (w : World) : Prop where
 step : Ext w0 w
 frame : ∃ y, a = ⟨(fillL y 0 T mask).toArray, ds⟩ ∧ ∀ j d, listed.getD j false = true → D.getD j none = some d → (Φ.getD j .any).p (y d) w
theorem fill_self (T : List Value) (mask : List Bool) : fillL (fun t => T.getD t undef) 0 T mask = T := by
 apply List.ext_getElem?
 intro i
 rw [fillL_get]
 split
 · simp only [Nat.zero_add]
   cases h : T[i]? with
   | none => rfl
   | some v => simp [List.getD, h]
 rfl
theorem fill_set (y : Nat → Value) (T : List Value) (mask : List Bool) (d : Nat) (v : Value) (hd : d < T.length) (hm : mask.getD d false = true) :
 (fillL y 0 T mask).set d v = fillL (fun t => if t = d then v else y t) 0 T mask := by
 apply List.ext_getElem?
 intro i
 rw [List.getElem?_set, fillL_get, fillL_get, fillL_length]
 by_cases h : d = i
 · subst h
   rw [if_pos rfl, if_pos hd, if_pos hm]
   simp [List.getElem?_eq_getElem hd]
 rw [if_neg h]
 have : (fun _ : Value => if 0 + i = d then v else y (0 + i)) = fun _ => y (0 + i) := by funext _; rw [if_neg (by omega)]
 rw [this]
section
variable {P : Program} {ops : Array Oper} {Q : Exit → Act → World → Prop} {w0 : World} {T : List Value} {ds : List Deferred} {mask : List Bool}
 {D : List (Option Nat)} {Φ : List StP} {A : List (List Nat)}
theorem rg_all_listed {listed : Array Bool} (hsz : listed.size = ops.size) (hedge : ∀ (i : Nat) (o : Oper), ops[i]? = some o → ∀ e ∈ o.after.toList, Region.binds .any e = true → e.on < i)
 (hr : Region.ready .any ops listed = []) : ∀ i, i < ops.size → listed.getD i false = true := by
 intro i
 induction i using Nat.strongRecOn with
 | _ i ih =>
   intro hi
   cases hl : listed.getD i false with
   | true => rfl
   | false =>
     exfalso
     have hmem : i ∈ Region.ready .any ops listed := by
      unfold Region.ready
      rw [List.mem_filter]
      refine ⟨List.mem_range.2 hi, ?_⟩
      have h1 : listed.getD i true = false := by
       simp only [Array.getD_eq_getD_getElem?] at hl ⊢
       rw [Array.getElem?_eq_getElem (by omega)] at hl ⊢
       simpa using hl
      have ho : ops[i]? = some ops[i] := Array.getElem?_eq_getElem hi
      rw [h1, ho]
      simp only [Bool.not_false, Bool.true_and, Option.map_some, Option.getD_some]
      rw [Array.all_eq_true']
      intro e he
      by_cases hb : Region.binds .any e = true
      · have hlt := hedge i _ ho e (by simpa using he) hb
        rw [ih e.on hlt (by omega)]; simp
      simp [hb]
     rw [hr] at hmem
     simp at hmem
theorem rg_any (hcheck : rgCheck ops D A mask T.length = true)
 (hobs : RgObs P ops Q w0 T ds mask D Φ A 0 ops.toList)
 (hend : ∀ y w, Ext w0 w → RgFacts D Φ y w (List.range ops.size) → Q .normal ⟨(fillL y 0 T mask).toArray, ds⟩ w) :
 ∀ (fuel : Nat) (listed : Array Bool) (a : Act) (w : World), listed.size = ops.size → listed.toList.count false ≤ fuel →
  (∀ i o, ops[i]? = some o → listed.getD i false = true → ∀ e ∈ o.after.toList, Region.binds .any e = true → listed.getD e.on false = true) →
  RgInv ops w0 T ds mask D Φ listed a w → wpAny P .any ops Q fuel listed a w := by
 simp only [rgCheck, Bool.and_eq_true] at hcheck
 obtain ⟨⟨⟨⟨hD, hE⟩, hdst⟩, hnd⟩, hA⟩ := hcheck
 have hD : D = ops.toList.map (·.dst) := by simpa using hD
 have hedge : ∀ (i : Nat) (o : Oper), ops[i]? = some o → ∀ e ∈ o.after.toList, Region.binds .any e = true → e.on < i := by
  intro i o ho e he hb
  rw [List.all_eq_true] at hE
  have := hE (o, i) (by rw [List.mem_zipIdx_iff_getElem?]; simpa using ho)
  simp only [Array.all_eq_true', Array.mem_toList_iff] at this he
  have := this e he
  simpa [hb] using this
 have hget : ∀ (i : Nat) (o : Oper), ops[i]? = some o → D.getD i none = o.dst := by
  intro i o ho
  rw [hD]
  simp [List.getD, ho]
 have hdlt : ∀ (i : Nat) (o : Oper) (d : Nat), ops[i]? = some o → o.dst = some d → d < T.length ∧ mask.getD d false = true := by
  intro i o d ho hd
  rw [List.all_eq_true] at hdst
  have := hdst d (List.mem_filterMap.2 ⟨o, by have := Array.mem_of_getElem? ho; simpa using this, hd⟩)
  simpa using this
 have hne : ∀ (i j d : Nat), i < ops.size → j < ops.size → i ≠ j → D.getD i none = some d → D.getD j none ≠ some d := by
  have half : ∀ (i j d : Nat), i < ops.size → j < i → D.getD i none = some d → D.getD j none ≠ some d := by
   intro i j d hi hj h1 h2
   rw [List.all_eq_true] at hnd
   have := hnd i (List.mem_range.2 hi)
   rw [List.all_eq_true] at this
   have := this j (List.mem_range.2 hj)
   rw [h1, h2] at this
   simp at this
  intro i j d hi hj hij h1 h2
  rcases Nat.lt_or_gt_of_ne hij with h | h
  · exact half j i d hj h h2 h1
  exact half i j d hi h h1 h2
 intro fuel
 induction fuel with
 | zero =>
   intro listed a w hsz hc hcl hinv
   have hall : ∀ i, i < ops.size → listed.getD i false = true := by
    intro i hi
    have h0 : listed.toList.count false = 0 := by omega
    rw [List.count_eq_zero] at h0
    cases hl : listed.getD i false with
    | true => rfl
    | false =>
      exfalso; apply h0
      simp only [Array.getD_eq_getD_getElem?, Array.getElem?_eq_getElem (show i < listed.size by omega), Option.getD_some] at hl
      rw [← hl]; simp
   refine ⟨?_, ?_⟩
   · unfold Region.ready
     rw [List.filter_eq_nil_iff]
     intro i hi
     have := hall i (List.mem_range.1 hi)
     have h1 : listed.getD i true = true := by
      simp only [Array.getD_eq_getD_getElem?] at this ⊢
      rw [Array.getElem?_eq_getElem (by have := List.mem_range.1 hi; omega)] at this ⊢
      simpa using this
     simp [h1]
   obtain ⟨hs, y, rfl, hf⟩ := hinv
   exact hend y w hs (RgFacts.of fun j hj d hd => hf j d (hall j (List.mem_range.1 hj)) hd)
 | succ fuel ih =>
   intro listed a w hsz hc hcl hinv
   refine ⟨fun hr => ?_, fun i hi => ?_⟩
   · have hall := rg_all_listed hsz hedge hr
     obtain ⟨hs, y, rfl, hf⟩ := hinv
     exact hend y w hs (RgFacts.of fun j hj d hd => hf j d (hall j (List.mem_range.1 hj)) hd)
   obtain ⟨hs, y, rfl, hf⟩ := hinv
   unfold Region.ready at hi
   rw [List.mem_filter] at hi
   obtain ⟨hi1, hi2⟩ := hi
   have hi1 := List.mem_range.1 hi1
   simp only [Bool.and_eq_true] at hi2
   obtain ⟨hl, hread⟩ := hi2
   have ho : ops[i]? = some ops[i] := Array.getElem?_eq_getElem hi1
   rw [ho] at hread
   simp only [Option.map_some, Option.getD_some] at hread
   have hlf : listed.getD i false = false := by
    simp only [Array.getD_eq_getD_getElem?] at hl ⊢
    rw [Array.getElem?_eq_getElem (by omega)] at hl ⊢
    simpa using hl
   have hlist : ∀ e ∈ (ops[i]).after.toList, Region.binds .any e = true → listed.getD e.on false = true := by
    intro e he hb
    rw [Array.all_eq_true'] at hread
    have := hread e (by simpa using he)
    simpa [hb] using this
   have hanc : ∀ j ∈ A.getD i [], listed.getD j false = true := by
    intro j hj
    rw [List.all_eq_true] at hA
    have h1 := hA i (List.mem_range.2 hi1)
    rw [List.all_eq_true] at h1
    have h2 := h1 j hj
    have h2 : j ∈ (ancsOf ops.toList).getD i [] := by simpa using h2
    have h3 := ancs_listed ops.toList (fun k => k = i ∨ listed.getD k false = true)
     (fun k o hk hL e he hb => by
       have hk : ops[k]? = some o := by simpa using hk
       rcases hL with rfl | hL
       · obtain rfl : ops[k] = o := by rw [ho] at hk; exact Option.some.inj hk
         exact .inr (hlist e he hb)
       · exact .inr (hcl k o hk hL e he hb)) i (.inl rfl) j h2
    rcases h3 with rfl | h3
    ·
     exfalso
     have hlt : ∀ i j, j ∈ (ancsOf ops.toList).getD i [] → j < i := by
      intro i0 j0 h0
      exact (ancs_lt ops.toList (fun k o hk e he hb => hedge k o (by simpa using hk) e he hb) i0 j0 h0)
     exact absurd (hlt _ _ h2) (Nat.lt_irrefl _)
    exact h3
   have hK : ∀ v w', Ext w w' → (Φ.getD i .any).p v w' →
    wpAny P .any ops Q fuel (listed.setIfInBounds i true) ((⟨(fillL y 0 T mask).toArray, ds⟩ : Act).put ops[i].dst v) w' := by
    intro v w' hs' hv
    refine ih _ _ _ (by simpa using hsz) ?_ ?_ ?_
    · have h1 : i < listed.toList.length := by simpa using (show i < listed.size by omega)
      rw [Array.toList_setIfInBounds, List.count_set h1]
      have h2 : listed.toList[i] = false := by
       simp only [Array.getD_eq_getD_getElem?, Array.getElem?_eq_getElem (show i < listed.size by omega), Option.getD_some] at hlf
       simpa using hlf
      have h3 : 0 < listed.toList.count false := List.count_pos_iff.2 (h2 ▸ List.getElem_mem _)
      rw [h2]; simp only [beq_self_eq_true, if_true, Bool.true_eq_false, if_false, (by decide : ((true : Bool) == false) = false), Bool.false_eq_true]; omega
    · intro k o hk hL e he hb
      have hset : ∀ m, listed.getD m false = true → (listed.setIfInBounds i true).getD m false = true := by
       intro m hm
       simp only [Array.getD_eq_getD_getElem?, Array.getElem?_setIfInBounds] at hm ⊢
       split
       · split
         · rfl
         rename_i h1 h2; omega
       exact hm
      by_cases hki : k = i
      · subst hki
        obtain rfl : ops[k] = o := by rw [ho] at hk; exact Option.some.inj hk
        exact hset _ (hlist e he hb)
      have : listed.getD k false = true := by
       simp only [Array.getD_eq_getD_getElem?, Array.getElem?_setIfInBounds] at hL ⊢
       rw [if_neg (fun h => hki h.symm)] at hL
       exact hL
      exact hset _ (hcl k o hk this e he hb)
    refine ⟨Ext.trans hs hs', ?_⟩
    cases hd : ops[i].dst with
    | none =>
      refine ⟨y, rfl, fun j d hj hjd => ?_⟩
      have hji : j ≠ i := by rintro rfl; rw [hget j _ ho, hd] at hjd; cases hjd
      have : listed.getD j false = true := by
       simp only [Array.getD_eq_getD_getElem?, Array.getElem?_setIfInBounds] at hj ⊢
       rw [if_neg (fun h => hji h.symm)] at hj
       exact hj
      exact (Φ.getD j .any).ext _ _ _ hs' (hf j d this hjd)
    | some e =>
      obtain ⟨he1, he2⟩ := hdlt i _ e ho hd
      refine ⟨fun t => if t = e then v else y t, ?_, fun j d hj hjd => ?_⟩
      · simp only [Act.put]
        rw [← fill_set y T mask e v he1 he2]
        simp
      by_cases hji : j = i
      · subst hji
        have : d = e := by rw [hget j _ ho, hd] at hjd; exact (Option.some.inj hjd).symm
        subst this
        simp only [if_true]
        exact hv
      have hL : listed.getD j false = true := by
       simp only [Array.getD_eq_getD_getElem?, Array.getElem?_setIfInBounds] at hj ⊢
       rw [if_neg (fun h => hji h.symm)] at hj
       exact hj
      have hjlt : j < ops.size := by
       rcases Nat.lt_or_ge j ops.size with h | h
       · exact h
       rw [hD, List.getD_eq_getElem?_getD, List.getElem?_eq_none (by simpa using h)] at hjd
       simp at hjd
      have hde : d ≠ e := by
       rintro rfl
       exact hne j i d hjlt hi1 hji hjd (by rw [hget i _ ho, hd])
      simp only [if_neg hde]
      exact (Φ.getD j .any).ext _ _ _ hs' (hf j d hL hjd)
   have hob := hobs.at_ i ops[i] (by simpa using ho) y w hs (by
    rw [Nat.zero_add]
    exact RgFacts.of fun j hj d hd => hf j d (hanc j hj) hd) _ (by rw [Nat.zero_add]; exact hK)
   unfold wpOp
   rw [ho]
   simp only []
   split
   · rename_i hw
     rw [if_pos hw] at hob
     exact .inl hob
   rename_i hw
   rw [if_neg hw] at hob
   exact hob
theorem rg_yes {c : Bool} {A B : Prop} (h : c = true) (hA : A) : if c = true then A else B := by rw [if_pos h]; exact hA
theorem rg_no {c : Bool} {A B : Prop} (h : c = false) (hB : B) : if c = true then A else B := by rw [if_neg (by simp [h])]; exact hB
theorem wp_region_rg {id : Nat} {w : World} (hm : P.follows .mixedOrders = true) (mask : List Bool) (D : List (Option Nat)) (A : List (List Nat)) (Φ : List StP)
 (hcheck : rgCheck ops D A mask T.length = true)
 (hobs : RgObs P ops Q w T ds mask D Φ A 0 ops.toList)
 (hend : ∀ y w', Ext w w' → RgFacts D Φ y w' (List.range ops.size) → Q .normal ⟨(fillL y 0 T mask).toArray, ds⟩ w') :
 (Code.region id ops true).wp P Q ⟨T.toArray, ds⟩ w :=
 wp_region_any hm (rg_any hcheck hobs hend _ _ _ _ (by simp) (by simp) (by
  intro i o _ h
  simp [Array.getD, Array.getElem?_replicate] at h) ⟨Ext.drew w, _, by rw [fill_self], by intro j d h; simp [Array.getD, Array.getElem?_replicate] at h⟩)
end
end
section
open Go.RowKit
section
variable (P : Program) (ops : Array Oper) (Q : Exit → Act → World → Prop) (w0 : World) (T : List Value) (ds : List Deferred) (mask : List Bool)
 (D : List (Option Nat)) (Φ : List StP) (A : List (List Nat)) (z : Nat)
def RgtOb (i : Nat) (o : Oper) : Prop :=
 ∀ y w, Ext w0 w → y z = T.getD z undef → RgFacts D Φ y w (A.getD i []) →
  ∀ K : Act → World → Prop, (∀ v w', Ext w w' → (Φ.getD i .any).p v w' → K ((⟨(fillL y 0 T mask).toArray, ds⟩ : Act).put o.dst v) w') →
   if Region.wanted o (yielded ops (fillL y 0 T mask).toArray) then o.wp P ⟨(fillL y 0 T mask).toArray, ds⟩ w K Q
   else K ((⟨(fillL y 0 T mask).toArray, ds⟩ : Act).put o.dst undef) w
def RgtObs : Nat → List Oper → Prop
 | _, [] => True
 | i, o :: os => RgtOb P ops Q w0 T ds mask D Φ A z i o ∧ RgtObs (i + 1) os
end
theorem RgtObs.at_ {P : Program} {ops : Array Oper} {Q : Exit → Act → World → Prop} {w0 : World} {T : List Value} {ds : List Deferred} {mask : List Bool}
 {D : List (Option Nat)} {Φ : List StP} {A : List (List Nat)} {z : Nat} :
 ∀ {k : Nat} {os : List Oper}, RgtObs P ops Q w0 T ds mask D Φ A z k os → ∀ i o, os[i]? = some o → RgtOb P ops Q w0 T ds mask D Φ A z (k + i) o
 | _, [], _, i, o, h => by simp at h
 | k, x :: xs, H, 0, o, h => by
   simp at h; subst h; exact H.1
 | k, x :: xs, H, i + 1, o, h => by
   have := RgtObs.at_ H.2 i o (by simpa using h)
   rwa [show k + 1 + i = k + (i + 1) by omega] at this
def lastCheck (ops : Array Oper) (D : List (Option Nat)) (m z : Nat) : Bool :=
 (D.getD m none == some z) && decide (m < ops.size) && ((List.range ops.size).all fun i => i == m || ((ancsOf ops.toList).getD m []).contains i)
structure RgtInv (w0 : World) (T : List Value) (ds : List Deferred) (mask : List Bool) (D : List (Option Nat)) (Φ : List StP) (m z : Nat) (listed : Array Bool) (a : Act) (w : World) : Prop where
 step : Ext w0 w
 frame : ∃ y, a = ⟨(fillL y 0 T mask).toArray, ds⟩ ∧ (listed.getD m false = false → y z = T.getD z undef) ∧ ∀ j d, listed.getD j false = true → D.getD j none = some d → (Φ.getD j .any).p (y d) w
section
variable {P : Program} {ops : Array Oper} {Q : Exit → Act → World → Prop} {w0 : World} {T : List Value} {ds : List Deferred} {mask : List Bool}
 {D : List (Option Nat)} {Φ : List StP} {A : List (List Nat)} {m z : Nat}
theorem rgt_any (hcheck : rgCheck ops D A mask T.length = true) (hlast : lastCheck ops D m z = true)
 (hobs : RgtObs P ops Q w0 T ds mask D Φ A z 0 ops.toList)
 (hend : ∀ y w, Ext w0 w → RgFacts D Φ y w (List.range ops.size) → Q .normal ⟨(fillL y 0 T mask).toArray, ds⟩ w) :
 ∀ (fuel : Nat) (listed : Array Bool) (a : Act) (w : World), listed.size = ops.size → listed.toList.count false ≤ fuel →
  (∀ i o, ops[i]? = some o → listed.getD i false = true → ∀ e ∈ o.after.toList, Region.binds .any e = true → listed.getD e.on false = true) →
  RgtInv w0 T ds mask D Φ m z listed a w → wpAny P .any ops Q fuel listed a w := by
 simp only [lastCheck, Bool.and_eq_true] at hlast
 obtain ⟨⟨hl1, hl2⟩, hl3⟩ := hlast
 have hl1 : D.getD m none = some z := by simpa using hl1
 have hl2 : m < ops.size := by simpa using hl2
 simp only [rgCheck, Bool.and_eq_true] at hcheck
 obtain ⟨⟨⟨⟨hD, hE⟩, hdst⟩, hnd⟩, hA⟩ := hcheck
 have hD : D = ops.toList.map (·.dst) := by simpa using hD
 have hedge : ∀ (i : Nat) (o : Oper), ops[i]? = some o → ∀ e ∈ o.after.toList, Region.binds .any e = true → e.on < i := by
  intro i o ho e he hb
  rw [List.all_eq_true] at hE
  have := hE (o, i) (by rw [List.mem_zipIdx_iff_getElem?]; simpa using ho)
  simp only [Array.all_eq_true', Array.mem_toList_iff] at this he
  have := this e he
  simpa [hb] using this
 have hget : ∀ (i : Nat) (o : Oper), ops[i]? = some o → D.getD i none = o.dst := by
  intro i o ho
  rw [hD]
  simp [List.getD, ho]
 have hdlt : ∀ (i : Nat) (o : Oper) (d : Nat), ops[i]? = some o → o.dst = some d → d < T.length ∧ mask.getD d false = true := by
  intro i o d ho hd
  rw [List.all_eq_true] at hdst
  have := hdst d (List.mem_filterMap.2 ⟨o, by have := Array.mem_of_getElem? ho; simpa using this, hd⟩)
  simpa using this
 have hne : ∀ (i j d : Nat), i < ops.size → j < ops.size → i ≠ j → D.getD i none = some d → D.getD j none ≠ some d := by
  have half : ∀ (i j d : Nat), i < ops.size → j < i → D.getD i none = some d → D.getD j none ≠ some d := by
   intro i j d hi hj h1 h2
   rw [List.all_eq_true] at hnd
   have := hnd i (List.mem_range.2 hi)
   rw [List.all_eq_true] at this
   have := this j (List.mem_range.2 hj)
   rw [h1, h2] at this
   simp at this
  intro i j d hi hj hij h1 h2
  rcases Nat.lt_or_gt_of_ne hij with h | h
  · exact half j i d hj h h2 h1
  exact half i j d hi h h1 h2
 intro fuel
 induction fuel with
 | zero =>
   intro listed a w hsz hc hcl hinv
   have hall : ∀ i, i < ops.size → listed.getD i false = true := by
    intro i hi
    have h0 : listed.toList.count false = 0 := by omega
    rw [List.count_eq_zero] at h0
    cases hl : listed.getD i false with
    | true => rfl
    | false =>
      exfalso; apply h0
      simp only [Array.getD_eq_getD_getElem?, Array.getElem?_eq_getElem (show i < listed.size by omega), Option.getD_some] at hl
      rw [← hl]; simp
   refine ⟨?_, ?_⟩
   · unfold Region.ready
     rw [List.filter_eq_nil_iff]
     intro i hi
     have := hall i (List.mem_range.1 hi)
     have h1 : listed.getD i true = true := by
      simp only [Array.getD_eq_getD_getElem?] at this ⊢
      rw [Array.getElem?_eq_getElem (by have := List.mem_range.1 hi; omega)] at this ⊢
      simpa using this
     simp [h1]
   obtain ⟨hs, y, rfl, hy, hf⟩ := hinv
   exact hend y w hs (RgFacts.of fun j hj d hd => hf j d (hall j (List.mem_range.1 hj)) hd)
 | succ fuel ih =>
   intro listed a w hsz hc hcl hinv
   refine ⟨fun hr => ?_, fun i hi => ?_⟩
   · have hall := rg_all_listed hsz hedge hr
     obtain ⟨hs, y, rfl, hy, hf⟩ := hinv
     exact hend y w hs (RgFacts.of fun j hj d hd => hf j d (hall j (List.mem_range.1 hj)) hd)
   obtain ⟨hs, y, rfl, hy, hf⟩ := hinv
   unfold Region.ready at hi
   rw [List.mem_filter] at hi
   obtain ⟨hi1, hi2⟩ := hi
   have hi1 := List.mem_range.1 hi1
   simp only [Bool.and_eq_true] at hi2
   obtain ⟨hl, hread⟩ := hi2
   have ho : ops[i]? = some ops[i] := Array.getElem?_eq_getElem hi1
   rw [ho] at hread
   simp only [Option.map_some, Option.getD_some] at hread
   have hlf : listed.getD i false = false := by
    simp only [Array.getD_eq_getD_getElem?] at hl ⊢
    rw [Array.getElem?_eq_getElem (by omega)] at hl ⊢
    simpa using hl
   have hlist : ∀ e ∈ (ops[i]).after.toList, Region.binds .any e = true → listed.getD e.on false = true := by
    intro e he hb
    rw [Array.all_eq_true'] at hread
    have := hread e (by simpa using he)
    simpa [hb] using this
   have hanc : ∀ j ∈ A.getD i [], listed.getD j false = true := by
    intro j hj
    rw [List.all_eq_true] at hA
    have h1 := hA i (List.mem_range.2 hi1)
    rw [List.all_eq_true] at h1
    have h2 := h1 j hj
    have h2 : j ∈ (ancsOf ops.toList).getD i [] := by simpa using h2
    have h3 := ancs_listed ops.toList (fun k => k = i ∨ listed.getD k false = true)
     (fun k o hk hL e he hb => by
       have hk : ops[k]? = some o := by simpa using hk
       rcases hL with rfl | hL
       · obtain rfl : ops[k] = o := by rw [ho] at hk; exact Option.some.inj hk
         exact .inr (hlist e he hb)
       · exact .inr (hcl k o hk hL e he hb)) i (.inl rfl) j h2
    rcases h3 with rfl | h3
    ·
     exfalso
     have hlt : ∀ i j, j ∈ (ancsOf ops.toList).getD i [] → j < i := by
      intro i0 j0 h0
      exact (ancs_lt ops.toList (fun k o hk e he hb => hedge k o (by simpa using hk) e he hb) i0 j0 h0)
     exact absurd (hlt _ _ h2) (Nat.lt_irrefl _)
    exact h3
   have hmz : listed.getD m false = false := by
    by_cases him : i = m
    · rw [← him]; exact hlf
    cases hmt : listed.getD m false with
    | false => rfl
    | true =>
      exfalso
      rw [List.all_eq_true] at hl3
      have h1 := hl3 i (List.mem_range.2 hi1)
      have h2 : i ∈ (ancsOf ops.toList).getD m [] := by
       rcases Bool.or_eq_true _ _ ▸ h1 with h | h
       · exact absurd (by simpa using h) him
       simpa using h
      have h3 := ancs_listed ops.toList (fun k => listed.getD k false = true) (fun k o hk hL e he hb => hcl k o (by simpa using hk) hL e he hb) m hmt i h2
      rw [hlf] at h3
      cases h3
   have hyz := hy hmz
   have hK : ∀ v w', Ext w w' → (Φ.getD i .any).p v w' →
    wpAny P .any ops Q fuel (listed.setIfInBounds i true) ((⟨(fillL y 0 T mask).toArray, ds⟩ : Act).put ops[i].dst v) w' := by
    intro v w' hs' hv
    refine ih _ _ _ (by simpa using hsz) ?_ ?_ ?_
    · have h1 : i < listed.toList.length := by simpa using (show i < listed.size by omega)
      rw [Array.toList_setIfInBounds, List.count_set h1]
      have h2 : listed.toList[i] = false := by
       simp only [Array.getD_eq_getD_getElem?, Array.getElem?_eq_getElem (show i < listed.size by omega), Option.getD_some] at hlf
       simpa using hlf
      have h3 : 0 < listed.toList.count false := List.count_pos_iff.2 (h2 ▸ List.getElem_mem _)
      rw [h2]; simp only [beq_self_eq_true, if_true, Bool.true_eq_false, if_false, (by decide : ((true : Bool) == false) = false), Bool.false_eq_true]; omega
    · intro k o hk hL e he hb
      have hset : ∀ m, listed.getD m false = true → (listed.setIfInBounds i true).getD m false = true := by
       intro m hm
       simp only [Array.getD_eq_getD_getElem?, Array.getElem?_setIfInBounds] at hm ⊢
       split
       · split
         · rfl
         rename_i h1 h2; omega
       exact hm
      by_cases hki : k = i
      · subst hki
        obtain rfl : ops[k] = o := by rw [ho] at hk; exact Option.some.inj hk
        exact hset _ (hlist e he hb)
      have : listed.getD k false = true := by
       simp only [Array.getD_eq_getD_getElem?, Array.getElem?_setIfInBounds] at hL ⊢
       rw [if_neg (fun h => hki h.symm)] at hL
       exact hL
      exact hset _ (hcl k o hk this e he hb)
    refine ⟨Ext.trans hs hs', ?_⟩
    cases hd : ops[i].dst with
    | none =>
      refine ⟨y, rfl, fun _ => hyz, fun j d hj hjd => ?_⟩
      have hji : j ≠ i := by rintro rfl; rw [hget j _ ho, hd] at hjd; cases hjd
      have : listed.getD j false = true := by
       simp only [Array.getD_eq_getD_getElem?, Array.getElem?_setIfInBounds] at hj ⊢
       rw [if_neg (fun h => hji h.symm)] at hj
       exact hj
      exact (Φ.getD j .any).ext _ _ _ hs' (hf j d this hjd)
    | some e =>
      obtain ⟨he1, he2⟩ := hdlt i _ e ho hd
      refine ⟨fun t => if t = e then v else y t, ?_, fun hm2 => ?_, fun j d hj hjd => ?_⟩
      · simp only [Act.put]
        rw [← fill_set y T mask e v he1 he2]
        simp
      · have hmi : m ≠ i := by
         rintro rfl
         simp only [Array.getD_eq_getD_getElem?, Array.getElem?_setIfInBounds] at hm2
         rw [if_pos trivial, if_pos (by omega)] at hm2
         simp at hm2
        have hze : z ≠ e := by
         rintro rfl
         exact hne m i z hl2 hi1 hmi hl1 (by rw [hget i _ ho, hd])
        simp only [if_neg hze]
        exact hyz
      by_cases hji : j = i
      · subst hji
        have : d = e := by rw [hget j _ ho, hd] at hjd; exact (Option.some.inj hjd).symm
        subst this
        simp only [if_true]
        exact hv
      have hL : listed.getD j false = true := by
       simp only [Array.getD_eq_getD_getElem?, Array.getElem?_setIfInBounds] at hj ⊢
       rw [if_neg (fun h => hji h.symm)] at hj
       exact hj
      have hjlt : j < ops.size := by
       rcases Nat.lt_or_ge j ops.size with h | h
       · exact h
       rw [hD, List.getD_eq_getElem?_getD, List.getElem?_eq_none (by simpa using h)] at hjd
       simp at hjd
      have hde : d ≠ e := by
       rintro rfl
       exact hne j i d hjlt hi1 hji hjd (by rw [hget i _ ho, hd])
      simp only [if_neg hde]
      exact (Φ.getD j .any).ext _ _ _ hs' (hf j d hL hjd)
   have hob := hobs.at_ i ops[i] (by simpa using ho) y w hs hyz (by
    rw [Nat.zero_add]
    exact RgFacts.of fun j hj d hd => hf j d (hanc j hj) hd) _ (by rw [Nat.zero_add]; exact hK)
   unfold wpOp
   rw [ho]
   simp only []
   split
   · rename_i hw
     rw [if_pos hw] at hob
     exact .inl hob
   rename_i hw
   rw [if_neg hw] at hob
   exact hob
theorem wp_region_rgt {id : Nat} {w : World} (hm : P.follows .mixedOrders = true) (m z : Nat) (mask : List Bool) (D : List (Option Nat)) (A : List (List Nat)) (Φ : List StP)
 (hcheck : rgCheck ops D A mask T.length = true) (hlast : lastCheck ops D m z = true)
 (hobs : RgtObs P ops Q w T ds mask D Φ A z 0 ops.toList)
 (hend : ∀ y w', Ext w w' → RgFacts D Φ y w' (List.range ops.size) → Q .normal ⟨(fillL y 0 T mask).toArray, ds⟩ w') :
 (Code.region id ops true).wp P Q ⟨T.toArray, ds⟩ w :=
 wp_region_any hm (rgt_any (m := m) (z := z) hcheck hlast hobs hend _ _ _ _ (by simp) (by simp) (by
  intro i o _ h
  simp [Array.getD, Array.getElem?_replicate] at h) ⟨Ext.drew w, _, by rw [fill_self], fun _ => rfl, by intro j d h; simp [Array.getD, Array.getElem?_replicate] at h⟩)
end
end
section
open Go.RowKit
def spent : List Nat → List Bool → Nat
 | x :: xs, l :: ls => (if l then x else 0) + spent xs ls
 | _, _ => 0
theorem spent_le : ∀ (b : List Nat) (l : List Bool), spent b l ≤ b.sum
 | [], _ => by simp [spent]
 | _ :: _, [] => by simp [spent]
 | x :: xs, l :: ls => by have := spent_le xs ls; cases l <;> simp [spent] <;> omega
theorem spent_none : ∀ (b : List Nat) (n : Nat), spent b (List.replicate n false) = 0
 | [], _ => by simp [spent]
 | _ :: _, 0 => by simp [spent]
 | x :: xs, n + 1 => by simp [List.replicate_succ, spent, spent_none xs n]
theorem spent_set : ∀ (b : List Nat) (l : List Bool) (i : Nat), l[i]?.getD false = false → i < l.length → spent b (l.set i true) = spent b l + b.getD i 0
 | [], l, i, _, _ => by cases h : l.set i true <;> simp [spent]
 | _ :: _, [], i, _, h => by simp at h
 | x :: xs, l :: ls, 0, h, _ => by simp at h; subst h; simp [spent]; omega
 | x :: xs, l :: ls, i + 1, h, hi => by
   have := spent_set xs ls i (by simpa using h) (by simpa using hi)
   simp only [List.set_cons_succ, spent, this, List.getD_cons_succ]
   omega
structure BStP (S : World → World → Prop) where
 p : Value → World → Prop
 ext : ∀ v w w', S w w' → p v w → p v w'
def BStP.any {S : World → World → Prop} : BStP S := ⟨fun _ _ => True, fun _ _ _ _ h => h⟩
section
variable (P : Program) (ops : Array Oper) (Q : Exit → Act → World → Prop) (w0 : World) (T : List Value) (ds : List Deferred) (mask : List Bool)
 (D : List (Option Nat)) {S : World → World → Prop} (Φ : List (BStP S)) (J : World → Nat → Prop) (b : List Nat) (A : List (List Nat))
end
structure BInv (ops : Array Oper) (w0 : World) (T : List Value) (ds : List Deferred) (mask : List Bool) (D : List (Option Nat)) {S : World → World → Prop} (Φ : List (BStP S)) (J : World → Nat → Prop) (b : List Nat) (listed : Array Bool) (a : Act) (w : World) : Prop where
 step : S w0 w
 left : J w (spent b listed.toList)
 frame : ∃ y, a = ⟨(fillL y 0 T mask).toArray, ds⟩ ∧ ∀ j d, listed.getD j false = true → D.getD j none = some d → (Φ.getD j .any).p (y d) w
 side : ∀ j, listed.getD j false = true → D.getD j none = none → (Φ.getD j .any).p undef w
section
variable {P : Program} {ops : Array Oper} {Q : Exit → Act → World → Prop} {w0 : World} {T : List Value} {ds : List Deferred} {mask : List Bool}
 {D : List (Option Nat)} {S : World → World → Prop} {Φ : List (BStP S)} {J : World → Nat → Prop} {b : List Nat} {A : List (List Nat)}
end
end
section
open Go.RowKit
structure MStP (S N : World → World → Prop) where
 p : Value → World → Prop
 hd : Bool
 ext : ∀ v w w', N w w' → p v w → p v w'
 own : hd = true → ∀ v w w', S w w' → p v w → p v w'
def MStP.is {S N : World → World → Prop} (V : Value) : MStP S N := ⟨fun v _ => v = V, true, fun _ _ _ _ h => h, fun _ _ _ _ _ h => h⟩
def MStP.any {S N : World → World → Prop} : MStP S N := ⟨fun _ _ => True, true, fun _ _ _ _ h => h, fun _ _ _ _ _ h => h⟩
def MFacts {S N : World → World → Prop} (D : List (Option Nat)) (Φ : List (MStP S N)) (y : Nat → Value) (w : World) : List Nat → Prop
 | [] => True
 | j :: js => (match D.getD j none with
    | some d => (Φ.getD j .any).p (y d) w
    | none => (Φ.getD j .any).p undef w) ∧ MFacts D Φ y w js
theorem MFacts.of {S N : World → World → Prop} {D : List (Option Nat)} {Φ : List (MStP S N)} {y : Nat → Value} {w : World} :
 ∀ {js : List Nat}, (∀ j ∈ js, ∀ d, D.getD j none = some d → (Φ.getD j .any).p (y d) w) → (∀ j ∈ js, D.getD j none = none → (Φ.getD j .any).p undef w) → MFacts D Φ y w js
 | [], _, _ => trivial
 | j :: js, h, h' => by
   refine ⟨?_, MFacts.of (fun k hk => h k (List.mem_cons_of_mem _ hk)) fun k hk => h' k (List.mem_cons_of_mem _ hk)⟩
   have := h j (List.mem_cons_self ..)
   split
   · rename_i d hd; exact this d hd
   rename_i hd; exact h' j (List.mem_cons_self ..) hd
section
variable (P : Program) (ops : Array Oper) (Q : Exit → Act → World → Prop) (w0 : World) (T : List Value) (ds : List Deferred) (mask : List Bool)
 (D : List (Option Nat)) {S N : World → World → Prop} (Φ : List (MStP S N)) (J : World → Nat → Prop) (b : List Nat) (A : List (List Nat)) (M : List Bool)
def MOb (i : Nat) (o : Oper) : Prop :=
 ∀ y w k, S w0 w → J w k → k + b.getD i 0 ≤ b.sum → MFacts D Φ y w (A.getD i []) →
  ∀ K : Act → World → Prop, (∀ v w', (bif M.getD i false then S w w' else N w w') → J w' (k + b.getD i 0) → (Φ.getD i .any).p (bif o.dst.isSome then v else undef) w' → K ((⟨(fillL y 0 T mask).toArray, ds⟩ : Act).put o.dst v) w') →
   if Region.wanted o (yielded ops (fillL y 0 T mask).toArray) then o.wp P ⟨(fillL y 0 T mask).toArray, ds⟩ w K Q
   else K ((⟨(fillL y 0 T mask).toArray, ds⟩ : Act).put o.dst undef) w
def MObs : Nat → List Oper → Prop
 | _, [] => True
 | i, o :: os => MOb P ops Q w0 T ds mask D Φ J b A M i o ∧ MObs (i + 1) os
end
theorem MObs.at_ {P : Program} {ops : Array Oper} {Q : Exit → Act → World → Prop} {w0 : World} {T : List Value} {ds : List Deferred} {mask : List Bool}
 {D : List (Option Nat)} {S N : World → World → Prop} {Φ : List (MStP S N)} {J : World → Nat → Prop} {b : List Nat} {A : List (List Nat)} {M : List Bool} :
 ∀ {k : Nat} {os : List Oper}, MObs P ops Q w0 T ds mask D Φ J b A M k os → ∀ i o, os[i]? = some o → MOb P ops Q w0 T ds mask D Φ J b A M (k + i) o
 | _, [], _, i, o, h => by simp at h
 | k, x :: xs, H, 0, o, h => by
   simp at h; subst h; exact H.1
 | k, x :: xs, H, i + 1, o, h => by
   have := MObs.at_ H.2 i o (by simpa using h)
   rwa [show k + 1 + i = k + (i + 1) by omega] at this
def liveOp (ops : Array Oper) (A : List (List Nat)) (Fin : List Nat) (listed : Array Bool) (j : Nat) : Prop := j ∈ Fin ∨ ∃ k, k < ops.size ∧ j ∈ A.getD k [] ∧ listed.getD k false = false
def rgmCheck (ops : Array Oper) (A : List (List Nat)) (M H : List Bool) (Fin : List Nat) : Bool :=
 (List.range ops.size).all fun i => !M.getD i false || (List.range ops.size).all fun j => j == i || H.getD j true || ((ancsOf ops.toList).getD j []).contains i ||
   (!Fin.contains j && (List.range ops.size).all fun k => !(A.getD k []).contains j || k == i || ((ancsOf ops.toList).getD i []).contains k)
structure MInv (ops : Array Oper) (w0 : World) (T : List Value) (ds : List Deferred) (mask : List Bool) (D : List (Option Nat)) {S N : World → World → Prop} (Φ : List (MStP S N)) (J : World → Nat → Prop) (b : List Nat) (A : List (List Nat)) (Fin : List Nat) (listed : Array Bool) (a : Act) (w : World) : Prop where
 step : S w0 w
 left : J w (spent b listed.toList)
 frame : ∃ y, a = ⟨(fillL y 0 T mask).toArray, ds⟩ ∧ ∀ j d, listed.getD j false = true → liveOp ops A Fin listed j → D.getD j none = some d → (Φ.getD j .any).p (y d) w
 side : ∀ j, listed.getD j false = true → liveOp ops A Fin listed j → D.getD j none = none → (Φ.getD j .any).p undef w
section
variable {P : Program} {ops : Array Oper} {Q : Exit → Act → World → Prop} {w0 : World} {T : List Value} {ds : List Deferred} {mask : List Bool}
 {D : List (Option Nat)} {S N : World → World → Prop} {Φ : List (MStP S N)} {J : World → Nat → Prop} {b : List Nat} {A : List (List Nat)} {M H : List Bool} {Fin : List Nat}
theorem mrg_any (hcheck : rgCheck ops D A mask T.length = true) (hmc : rgmCheck ops A M H Fin = true) (hFin : ∀ j ∈ Fin, j < ops.size) (hH : Φ.map MStP.hd = H)
 (hobs : MObs P ops Q w0 T ds mask D Φ J b A M 0 ops.toList)
 (hNS : ∀ a b, N a b → S a b) (hSt : ∀ {a b c}, S a b → S b c → S a c) (hJ : ∀ w k k', k ≤ k' → J w k → J w k')
 (hend : ∀ y w, S w0 w → J w b.sum → MFacts D Φ y w Fin → Q .normal ⟨(fillL y 0 T mask).toArray, ds⟩ w) :
 ∀ (fuel : Nat) (listed : Array Bool) (a : Act) (w : World), listed.size = ops.size → listed.toList.count false ≤ fuel →
  (∀ i o, ops[i]? = some o → listed.getD i false = true → ∀ e ∈ o.after.toList, Region.binds .any e = true → listed.getD e.on false = true) →
  MInv ops w0 T ds mask D Φ J b A Fin listed a w → wpAny P .any ops Q fuel listed a w := by
 simp only [rgCheck, Bool.and_eq_true] at hcheck
 obtain ⟨⟨⟨⟨hD, hE⟩, hdst⟩, hnd⟩, hA⟩ := hcheck
 have hD : D = ops.toList.map (·.dst) := by simpa using hD
 have hedge : ∀ (i : Nat) (o : Oper), ops[i]? = some o → ∀ e ∈ o.after.toList, Region.binds .any e = true → e.on < i := by
  intro i o ho e he hb
  rw [List.all_eq_true] at hE
  have := hE (o, i) (by rw [List.mem_zipIdx_iff_getElem?]; simpa using ho)
  simp only [Array.all_eq_true', Array.mem_toList_iff] at this he
  have := this e he
  simpa [hb] using this
 have hget : ∀ (i : Nat) (o : Oper), ops[i]? = some o → D.getD i none = o.dst := by
  intro i o ho
  rw [hD]
  simp [List.getD, ho]
 have hdlt : ∀ (i : Nat) (o : Oper) (d : Nat), ops[i]? = some o → o.dst = some d → d < T.length ∧ mask.getD d false = true := by
  intro i o d ho hd
  rw [List.all_eq_true] at hdst
  have := hdst d (List.mem_filterMap.2 ⟨o, by have := Array.mem_of_getElem? ho; simpa using this, hd⟩)
  simpa using this
 have hne : ∀ (i j d : Nat), i < ops.size → j < ops.size → i ≠ j → D.getD i none = some d → D.getD j none ≠ some d := by
  have half : ∀ (i j d : Nat), i < ops.size → j < i → D.getD i none = some d → D.getD j none ≠ some d := by
   intro i j d hi hj h1 h2
   rw [List.all_eq_true] at hnd
   have := hnd i (List.mem_range.2 hi)
   rw [List.all_eq_true] at this
   have := this j (List.mem_range.2 hj)
   rw [h1, h2] at this
   simp at this
  intro i j d hi hj hij h1 h2
  rcases Nat.lt_or_gt_of_ne hij with h | h
  · exact half j i d hj h h2 h1
  exact half i j d hi h h1 h2
 intro fuel
 induction fuel with
 | zero =>
   intro listed a w hsz hc hcl hinv
   have hall : ∀ i, i < ops.size → listed.getD i false = true := by
    intro i hi
    have h0 : listed.toList.count false = 0 := by omega
    rw [List.count_eq_zero] at h0
    cases hl : listed.getD i false with
    | true => rfl
    | false =>
      exfalso; apply h0
      simp only [Array.getD_eq_getD_getElem?, Array.getElem?_eq_getElem (show i < listed.size by omega), Option.getD_some] at hl
      rw [← hl]; simp
   refine ⟨?_, ?_⟩
   · unfold Region.ready
     rw [List.filter_eq_nil_iff]
     intro i hi
     have := hall i (List.mem_range.1 hi)
     have h1 : listed.getD i true = true := by
      simp only [Array.getD_eq_getD_getElem?] at this ⊢
      rw [Array.getElem?_eq_getElem (by have := List.mem_range.1 hi; omega)] at this ⊢
      simpa using this
     simp [h1]
   obtain ⟨hs, hj, ⟨y, rfl, hf⟩, hsd⟩ := hinv
   exact hend y w hs (hJ _ _ _ (spent_le b _) hj) (MFacts.of (fun j hj d hd => hf j d (hall j (hFin j hj)) (.inl hj) hd) fun j hj hd => hsd j (hall j (hFin j hj)) (.inl hj) hd)
 | succ fuel ih =>
   intro listed a w hsz hc hcl hinv
   refine ⟨fun hr => ?_, fun i hi => ?_⟩
   · have hall := rg_all_listed hsz hedge hr
     obtain ⟨hs, hj, ⟨y, rfl, hf⟩, hsd⟩ := hinv
     exact hend y w hs (hJ _ _ _ (spent_le b _) hj) (MFacts.of (fun j hj d hd => hf j d (hall j (hFin j hj)) (.inl hj) hd) fun j hj hd => hsd j (hall j (hFin j hj)) (.inl hj) hd)
   obtain ⟨hs, hj, ⟨y, rfl, hf⟩, hsd⟩ := hinv
   unfold Region.ready at hi
   rw [List.mem_filter] at hi
   obtain ⟨hi1, hi2⟩ := hi
   have hi1 := List.mem_range.1 hi1
   simp only [Bool.and_eq_true] at hi2
   obtain ⟨hl, hread⟩ := hi2
   have ho : ops[i]? = some ops[i] := Array.getElem?_eq_getElem hi1
   rw [ho] at hread
   simp only [Option.map_some, Option.getD_some] at hread
   have hlf : listed.getD i false = false := by
    simp only [Array.getD_eq_getD_getElem?] at hl ⊢
    rw [Array.getElem?_eq_getElem (by omega)] at hl ⊢
    simpa using hl
   have hlist : ∀ e ∈ (ops[i]).after.toList, Region.binds .any e = true → listed.getD e.on false = true := by
    intro e he hb
    rw [Array.all_eq_true'] at hread
    have := hread e (by simpa using he)
    simpa [hb] using this
   have hanc : ∀ j ∈ A.getD i [], listed.getD j false = true := by
    intro j hj
    rw [List.all_eq_true] at hA
    have h1 := hA i (List.mem_range.2 hi1)
    rw [List.all_eq_true] at h1
    have h2 := h1 j hj
    have h2 : j ∈ (ancsOf ops.toList).getD i [] := by simpa using h2
    have h3 := ancs_listed ops.toList (fun k => k = i ∨ listed.getD k false = true)
     (fun k o hk hL e he hb => by
       have hk : ops[k]? = some o := by simpa using hk
       rcases hL with rfl | hL
       · obtain rfl : ops[k] = o := by rw [ho] at hk; exact Option.some.inj hk
         exact .inr (hlist e he hb)
       · exact .inr (hcl k o hk hL e he hb)) i (.inl rfl) j h2
    rcases h3 with rfl | h3
    ·
     exfalso
     have hlt : ∀ i j, j ∈ (ancsOf ops.toList).getD i [] → j < i := by
      intro i0 j0 h0
      exact (ancs_lt ops.toList (fun k o hk e he hb => hedge k o (by simpa using hk) e he hb) i0 j0 h0)
     exact absurd (hlt _ _ h2) (Nat.lt_irrefl _)
    exact h3
   have hsp : spent b (listed.setIfInBounds i true).toList = spent b listed.toList + b.getD i 0 := by
    rw [Array.toList_setIfInBounds]
    exact spent_set b listed.toList i (by simpa [Array.getD_eq_getD_getElem?, Array.getElem?_eq_getElem (show i < listed.size by omega)] using hlf) (by simpa using (show i < listed.size by omega))
   have hK : ∀ v w', (bif M.getD i false then S w w' else N w w') → J w' (spent b listed.toList + b.getD i 0) → (Φ.getD i .any).p (bif ops[i].dst.isSome then v else undef) w' →
    wpAny P .any ops Q fuel (listed.setIfInBounds i true) ((⟨(fillL y 0 T mask).toArray, ds⟩ : Act).put ops[i].dst v) w' := by
    intro v w' hs0 hj' hv
    have hs' : S w w' := by
     cases hm : M.getD i false with
     | true => rw [hm] at hs0; exact hs0
     | false => rw [hm] at hs0; exact hNS _ _ hs0
    have hlive : ∀ j, liveOp ops A Fin (listed.setIfInBounds i true) j → liveOp ops A Fin listed j := by
     intro j hj
     rcases hj with hj | ⟨k, hk, hkA, hkl⟩
     · exact .inl hj
     refine .inr ⟨k, hk, hkA, ?_⟩
     simp only [Array.getD_eq_getD_getElem?, Array.getElem?_setIfInBounds] at hkl ⊢
     by_cases hki : i = k
     · subst hki
       rw [if_pos rfl, if_pos (by omega)] at hkl
       simp at hkl
     rw [if_neg hki] at hkl
     exact hkl
    have hstab : ∀ j v0, j ≠ i → listed.getD j false = true → liveOp ops A Fin (listed.setIfInBounds i true) j → (Φ.getD j .any).p v0 w → (Φ.getD j .any).p v0 w' := by
     intro j v0 hji hjl hjv hp
     cases hm : M.getD i false with
     | false => rw [hm] at hs0; exact (Φ.getD j .any).ext _ _ _ hs0 hp
     | true =>
       unfold rgmCheck at hmc
       rw [List.all_eq_true] at hmc
       have h1 := hmc i (List.mem_range.2 hi1)
       rw [hm] at h1
       simp only [Bool.not_true, Bool.false_or] at h1
       by_cases hjs : j < ops.size
       · rw [List.all_eq_true] at h1
         have h2 := h1 j (List.mem_range.2 hjs)
         simp only [Bool.or_eq_true, beq_iff_eq, Bool.and_eq_true, Bool.not_eq_true'] at h2
         rcases h2 with ((h2 | h2) | h2) | ⟨h2, h3⟩
         · exact absurd h2 hji
         · refine (Φ.getD j .any).own ?_ _ _ _ hs' hp
           rw [← hH] at h2
           simp only [List.getD_eq_getElem?_getD, List.getElem?_map] at h2 ⊢
           cases hg : Φ[j]? with
           | none => rfl
           | some x => rw [hg] at h2; simpa using h2
         · exfalso
           have h2 : i ∈ (ancsOf ops.toList).getD j [] := by simpa using h2
           have := ancs_listed ops.toList (fun k => listed.getD k false = true) (fun k o hk hL e he hb => hcl k o (by simpa using hk) hL e he hb) j hjl i h2
           rw [hlf] at this; cases this
         exfalso
         rcases hjv with hjv | ⟨k, hk, hkA, hkl⟩
         · simp at h2; exact h2 hjv
         rw [List.all_eq_true] at h3
         have h4 := h3 k (List.mem_range.2 hk)
         simp only [Bool.or_eq_true, beq_iff_eq, Bool.not_eq_true'] at h4
         rcases h4 with (h4 | h4) | h4
         · have : (A.getD k []).contains j = true := by simpa using hkA
           rw [this] at h4; cases h4
         · subst h4
           simp [Array.getD_eq_getD_getElem?, Array.getElem?_setIfInBounds, show k < listed.size by omega] at hkl
         have h4 : k ∈ (ancsOf ops.toList).getD i [] := by simpa using h4
         have hkt : k ≠ i := fun e => by
          have hlt : ∀ i j, j ∈ (ancsOf ops.toList).getD i [] → j < i := fun i0 j0 h0 => (ancs_lt ops.toList (fun k o hk e he hb => hedge k o (by simpa using hk) e he hb) i0 j0 h0)
          have := hlt i k h4; omega
         have h5 := ancs_listed ops.toList (fun k => k = i ∨ listed.getD k false = true)
          (fun k o hk hL e he hb => by
            have hk : ops[k]? = some o := by simpa using hk
            rcases hL with rfl | hL
            · obtain rfl : ops[k] = o := by rw [ho] at hk; exact Option.some.inj hk
              exact .inr (hlist e he hb)
            · exact .inr (hcl k o hk hL e he hb)) i (.inl rfl) k h4
         rcases h5 with h5 | h5
         · exact hkt h5
         simp only [Array.getD_eq_getD_getElem?, Array.getElem?_setIfInBounds] at hkl h5
         rw [if_neg (fun h => hkt h.symm), h5] at hkl
         cases hkl
       exfalso
       have : listed.getD j false = false := by simp [Array.getD_eq_getD_getElem?, Array.getElem?_eq_none (show listed.size ≤ j by omega)]
       rw [this] at hjl; cases hjl
    refine ih _ _ _ (by simpa using hsz) ?_ ?_ ?_
    · have h1 : i < listed.toList.length := by simpa using (show i < listed.size by omega)
      rw [Array.toList_setIfInBounds, List.count_set h1]
      have h2 : listed.toList[i] = false := by
       simp only [Array.getD_eq_getD_getElem?, Array.getElem?_eq_getElem (show i < listed.size by omega), Option.getD_some] at hlf
       simpa using hlf
      have h3 : 0 < listed.toList.count false := List.count_pos_iff.2 (h2 ▸ List.getElem_mem _)
      rw [h2]; simp only [beq_self_eq_true, if_true, Bool.true_eq_false, if_false, (by decide : ((true : Bool) == false) = false), Bool.false_eq_true]; omega
    · intro k o hk hL e he hb
      have hset : ∀ m, listed.getD m false = true → (listed.setIfInBounds i true).getD m false = true := by
       intro m hm
       simp only [Array.getD_eq_getD_getElem?, Array.getElem?_setIfInBounds] at hm ⊢
       split
       · split
         · rfl
         rename_i h1 h2; omega
       exact hm
      by_cases hki : k = i
      · subst hki
        obtain rfl : ops[k] = o := by rw [ho] at hk; exact Option.some.inj hk
        exact hset _ (hlist e he hb)
      have : listed.getD k false = true := by
       simp only [Array.getD_eq_getD_getElem?, Array.getElem?_setIfInBounds] at hL ⊢
       rw [if_neg (fun h => hki h.symm)] at hL
       exact hL
      exact hset _ (hcl k o hk this e he hb)
    refine ⟨hSt hs hs', by rw [hsp]; exact hj', ?_, fun j hj hjv hjd => ?_⟩
    rotate_left
    · by_cases hji : j = i
      · subst hji
        rw [hget j _ ho] at hjd
        rw [hjd] at hv
        exact hv
      have hL : listed.getD j false = true := by
       simp only [Array.getD_eq_getD_getElem?, Array.getElem?_setIfInBounds] at hj ⊢
       rw [if_neg (fun h => hji h.symm)] at hj
       exact hj
      exact hstab j _ hji hL hjv (hsd j hL (hlive j hjv) hjd)
    cases hd : ops[i].dst with
    | none =>
      refine ⟨y, rfl, fun j d hj hjv hjd => ?_⟩
      have hji : j ≠ i := by rintro rfl; rw [hget j _ ho, hd] at hjd; cases hjd
      have : listed.getD j false = true := by
       simp only [Array.getD_eq_getD_getElem?, Array.getElem?_setIfInBounds] at hj ⊢
       rw [if_neg (fun h => hji h.symm)] at hj
       exact hj
      exact hstab j _ hji this hjv (hf j d this (hlive j hjv) hjd)
    | some e =>
      obtain ⟨he1, he2⟩ := hdlt i _ e ho hd
      refine ⟨fun t => if t = e then v else y t, ?_, fun j d hj hjv hjd => ?_⟩
      · simp only [Act.put]
        rw [← fill_set y T mask e v he1 he2]
        simp
      by_cases hji : j = i
      · subst hji
        have : d = e := by rw [hget j _ ho, hd] at hjd; exact (Option.some.inj hjd).symm
        subst this
        simp only [if_true]
        rw [hd] at hv
        exact hv
      have hL : listed.getD j false = true := by
       simp only [Array.getD_eq_getD_getElem?, Array.getElem?_setIfInBounds] at hj ⊢
       rw [if_neg (fun h => hji h.symm)] at hj
       exact hj
      have hjlt : j < ops.size := by
       rcases Nat.lt_or_ge j ops.size with h | h
       · exact h
       rw [hD, List.getD_eq_getElem?_getD, List.getElem?_eq_none (by simpa using h)] at hjd
       simp at hjd
      have hde : d ≠ e := by
       rintro rfl
       exact hne j i d hjlt hi1 hji hjd (by rw [hget i _ ho, hd])
      simp only [if_neg hde]
      exact hstab j _ hji hL hjv (hf j d hL (hlive j hjv) hjd)
   have hob := hobs.at_ i ops[i] (by simpa using ho) y w (spent b listed.toList) hs hj (by rw [Nat.zero_add, ← hsp]; exact spent_le b _) (by
    rw [Nat.zero_add]
    exact MFacts.of (fun j hj d hd => hf j d (hanc j hj) (.inr ⟨i, hi1, hj, hlf⟩) hd) fun j hj hd => hsd j (hanc j hj) (.inr ⟨i, hi1, hj, hlf⟩) hd) _ (by rw [Nat.zero_add]; exact hK)
   unfold wpOp
   rw [ho]
   simp only []
   split
   · rename_i hw
     rw [if_pos hw] at hob
     exact .inl hob
   rename_i hw
   rw [if_neg hw] at hob
   exact hob
theorem wp_region_rgm {id : Nat} {w : World} (S N : World → World → Prop) (J : World → Nat → Prop) (b : List Nat) (hm : P.follows .mixedOrders = true) (mask : List Bool) (D : List (Option Nat)) (A : List (List Nat)) (M H : List Bool) (Fin : List Nat) (Φ : List (MStP S N))
 (hcheck : rgCheck ops D A mask T.length = true) (hmc : rgmCheck ops A M H Fin = true) (hFin : (Fin.all fun j => decide (j < ops.size)) = true)
 (hobs : MObs P ops Q w T ds mask D Φ J b A M 0 ops.toList) (hH : Φ.map MStP.hd = H)
 (hNS : ∀ a b, N a b → S a b) (hSt : ∀ {a b c}, S a b → S b c → S a c) (hJ : ∀ w k k', k ≤ k' → J w k → J w k') (hdrew : S w w.drew) (hj0 : J w.drew 0)
 (hend : ∀ y w', S w w' → J w' b.sum → MFacts D Φ y w' Fin → Q .normal ⟨(fillL y 0 T mask).toArray, ds⟩ w') :
 (Code.region id ops true).wp P Q ⟨T.toArray, ds⟩ w :=
 wp_region_any hm (mrg_any hcheck hmc (fun j hj => by rw [List.all_eq_true] at hFin; simpa using hFin j hj) hH hobs hNS hSt hJ hend _ _ _ _ (by simp) (by simp) (by
  intro i o _ h
  simp [Array.getD, Array.getElem?_replicate] at h) ⟨hdrew, by rw [show spent b (Array.replicate ops.size false).toList = 0 by simp [spent_none]]; exact hj0, ⟨_, by rw [fill_self], by intro j d h; simp [Array.getD, Array.getElem?_replicate] at h⟩, by intro j h; simp [Array.getD, Array.getElem?_replicate] at h⟩)
end
def Own (B : Nat) (w w' : World) : Prop := B ≤ w.heap.size → Below B w w'
theorem Own.of_ext (B : Nat) (a b : World) (h : Ext a b) : Own B a b := fun hB => Below.mono h hB
theorem Own.trans {B : Nat} {a b c : World} (h : Own B a b) (k : Own B b c) : Own B a c := fun hB => (h hB).trans (k (Nat.le_trans hB (h hB).size))
theorem Own.drew (B : Nat) (w : World) : Own B w w.drew := fun _ => Below.drew (Below.refl _ _)
theorem Own.below {w w' : World} (h : Own w.heap.size w w') : Below w.heap.size w w' := h (Nat.le_refl _)
end
section
open Go.RowKit
def descM (ops : Array Oper) (i : Nat) : List Bool := (List.range ops.size).map fun j => j == i || ((ancsOf ops.toList).getD j []).contains i
def wCheck (ops : Array Oper) (b W : List Nat) : Bool := (List.range ops.size).all fun i => decide (W.getD i 0 ≤ spent b (descM ops i))
theorem wCheck_le {ops : Array Oper} {b W : List Nat} {i : Nat} (h : wCheck ops b W = true) (hi : i < ops.size) : W.getD i 0 ≤ spent b (descM ops i) := by
 unfold wCheck at h
 rw [List.all_eq_true] at h
 simpa using h i (List.mem_range.2 hi)
theorem spent_add : ∀ (b : List Nat) (l m : List Bool), (∀ j : Nat, l[j]?.getD false = true → m[j]?.getD false = false) → spent b l + spent b m ≤ b.sum
 | [], _, _, _ => by simp [spent]
 | _ :: xs, [], m, _ => by have := spent_le (‹Nat› :: xs) m; simpa [spent] using this
 | x :: xs, l :: ls, [], _ => by have := spent_le (x :: xs) (l :: ls); simpa [spent] using this
 | x :: xs, l :: ls, m :: ms, h => by
   have h0 := h 0
   have := spent_add xs ls ms (fun j hj => by simpa using h (j + 1) (by simpa using hj))
   simp at h0
   cases l <;> cases m <;> simp [spent] at h0 ⊢ <;> omega
section
variable (P : Program) (ops : Array Oper) (Q : Exit → Act → World → Prop) (w0 : World) (T : List Value) (ds : List Deferred) (mask : List Bool)
 (D : List (Option Nat)) {S N : World → World → Prop} (Φ : List (MStP S N)) (J : World → Nat → Prop) (b W : List Nat) (A : List (List Nat)) (M : List Bool)
end
section
variable {P : Program} {ops : Array Oper} {Q : Exit → Act → World → Prop} {w0 : World} {T : List Value} {ds : List Deferred} {mask : List Bool}
 {D : List (Option Nat)} {S N : World → World → Prop} {Φ : List (MStP S N)} {J : World → Nat → Prop} {b W : List Nat} {A : List (List Nat)} {M H : List Bool} {Fin : List Nat}
end
end
section
section
open Go.RowKit
def updY (d : Option Nat) (v : Value) (y : Nat → Value) : Nat → Value := match d with | none => y | some e => fun t => if t = e then v else y t
section
variable (P : Program) (ops : Array Oper) (Q : Exit → Act → World → Prop) (w0 : World) (T : List Value) (ds : List Deferred) (mask : List Bool)
 (D : List (Option Nat)) {S N : World → World → Prop} (Φ : List (MStP S N)) (J : (Nat → Value) → World → Nat → Prop) (b W : List Nat) (A : List (List Nat)) (M : List Bool)
def YOb (i : Nat) (o : Oper) : Prop :=
 ∀ y w k, S w0 w → J y w k → k + W.getD i 0 ≤ b.sum → MFacts D Φ y w (A.getD i []) →
  ∀ K : Act → World → Prop, (∀ v w', (bif M.getD i false then S w w' else N w w') → J (updY o.dst v y) w' (k + b.getD i 0) → (Φ.getD i .any).p (bif o.dst.isSome then v else undef) w' → K ((⟨(fillL y 0 T mask).toArray, ds⟩ : Act).put o.dst v) w') →
   if Region.wanted o (yielded ops (fillL y 0 T mask).toArray) then o.wp P ⟨(fillL y 0 T mask).toArray, ds⟩ w K Q
   else K ((⟨(fillL y 0 T mask).toArray, ds⟩ : Act).put o.dst undef) w
def YObs : Nat → List Oper → Prop
 | _, [] => True
 | i, o :: os => YOb P ops Q w0 T ds mask D Φ J b W A M i o ∧ YObs (i + 1) os
end
theorem YObs.at_ {P : Program} {ops : Array Oper} {Q : Exit → Act → World → Prop} {w0 : World} {T : List Value} {ds : List Deferred} {mask : List Bool}
 {D : List (Option Nat)} {S N : World → World → Prop} {Φ : List (MStP S N)} {J : (Nat → Value) → World → Nat → Prop} {b W : List Nat} {A : List (List Nat)} {M : List Bool} :
 ∀ {k : Nat} {os : List Oper}, YObs P ops Q w0 T ds mask D Φ J b W A M k os → ∀ i o, os[i]? = some o → YOb P ops Q w0 T ds mask D Φ J b W A M (k + i) o
 | _, [], _, i, o, h => by simp at h
 | k, x :: xs, H, 0, o, h => by
   simp at h; subst h; exact H.1
 | k, x :: xs, H, i + 1, o, h => by
   have := YObs.at_ H.2 i o (by simpa using h)
   rwa [show k + 1 + i = k + (i + 1) by omega] at this
structure YInv (ops : Array Oper) (w0 : World) (T : List Value) (ds : List Deferred) (mask : List Bool) (D : List (Option Nat)) {S N : World → World → Prop} (Φ : List (MStP S N)) (J : (Nat → Value) → World → Nat → Prop) (b : List Nat) (A : List (List Nat)) (Fin : List Nat) (listed : Array Bool) (a : Act) (w : World) : Prop where
 step : S w0 w
 frame : ∃ y, a = ⟨(fillL y 0 T mask).toArray, ds⟩ ∧ J y w (spent b listed.toList) ∧ ∀ j d, listed.getD j false = true → liveOp ops A Fin listed j → D.getD j none = some d → (Φ.getD j .any).p (y d) w
 side : ∀ j, listed.getD j false = true → liveOp ops A Fin listed j → D.getD j none = none → (Φ.getD j .any).p undef w
section
variable {P : Program} {ops : Array Oper} {Q : Exit → Act → World → Prop} {w0 : World} {T : List Value} {ds : List Deferred} {mask : List Bool}
 {D : List (Option Nat)} {S N : World → World → Prop} {Φ : List (MStP S N)} {J : (Nat → Value) → World → Nat → Prop} {b W : List Nat} {A : List (List Nat)} {M H : List Bool} {Fin : List Nat}
end
end
section
open Go.RowKit
theorem spent_all : ∀ (b : List Nat) (l : List Bool), b.length = l.length → (∀ j, j < l.length → l[j]?.getD false = true) → spent b l = b.sum
 | [], [], _, _ => rfl
 | [], _ :: _, h, _ => by cases h
 | _ :: _, [], h, _ => by cases h
 | x :: xs, l :: ls, h, hl => by
   have h0 : l = true := by simpa using hl 0 (by simp)
   have h1 := spent_all xs ls (by simpa using h) (fun j hj => by simpa using hl (j + 1) (by simpa using hj))
   subst h0
   simp [spent, h1]
section
variable {P : Program} {ops : Array Oper} {Q : Exit → Act → World → Prop} {w0 : World} {T : List Value} {ds : List Deferred} {mask : List Bool}
 {D : List (Option Nat)} {S N : World → World → Prop} {Φ : List (MStP S N)} {J : (Nat → Value) → World → Nat → Prop} {b W : List Nat} {A : List (List Nat)} {M H : List Bool} {Fin : List Nat}
theorem zrg_any (hcheck : rgCheck ops D A mask T.length = true) (hmc : rgmCheck ops A M H Fin = true) (hW : wCheck ops b W = true) (hFin : ∀ j ∈ Fin, j < ops.size) (hH : Φ.map MStP.hd = H)
 (hobs : YObs P ops Q w0 T ds mask D Φ J b W A M 0 ops.toList)
 (hNS : ∀ a b, N a b → S a b) (hSt : ∀ {a b c}, S a b → S b c → S a c) (hb : b.length = ops.size)
 (hend : ∀ y w, S w0 w → J y w b.sum → MFacts D Φ y w Fin → Q .normal ⟨(fillL y 0 T mask).toArray, ds⟩ w) :
 ∀ (fuel : Nat) (listed : Array Bool) (a : Act) (w : World), listed.size = ops.size → listed.toList.count false ≤ fuel →
  (∀ i o, ops[i]? = some o → listed.getD i false = true → ∀ e ∈ o.after.toList, Region.binds .any e = true → listed.getD e.on false = true) →
  YInv ops w0 T ds mask D Φ J b A Fin listed a w → wpAny P .any ops Q fuel listed a w := by
 simp only [rgCheck, Bool.and_eq_true] at hcheck
 obtain ⟨⟨⟨⟨hD, hE⟩, hdst⟩, hnd⟩, hA⟩ := hcheck
 have hD : D = ops.toList.map (·.dst) := by simpa using hD
 have hedge : ∀ (i : Nat) (o : Oper), ops[i]? = some o → ∀ e ∈ o.after.toList, Region.binds .any e = true → e.on < i := by
  intro i o ho e he hb
  rw [List.all_eq_true] at hE
  have := hE (o, i) (by rw [List.mem_zipIdx_iff_getElem?]; simpa using ho)
  simp only [Array.all_eq_true', Array.mem_toList_iff] at this he
  have := this e he
  simpa [hb] using this
 have hget : ∀ (i : Nat) (o : Oper), ops[i]? = some o → D.getD i none = o.dst := by
  intro i o ho
  rw [hD]
  simp [List.getD, ho]
 have hdlt : ∀ (i : Nat) (o : Oper) (d : Nat), ops[i]? = some o → o.dst = some d → d < T.length ∧ mask.getD d false = true := by
  intro i o d ho hd
  rw [List.all_eq_true] at hdst
  have := hdst d (List.mem_filterMap.2 ⟨o, by have := Array.mem_of_getElem? ho; simpa using this, hd⟩)
  simpa using this
 have hne : ∀ (i j d : Nat), i < ops.size → j < ops.size → i ≠ j → D.getD i none = some d → D.getD j none ≠ some d := by
  have half : ∀ (i j d : Nat), i < ops.size → j < i → D.getD i none = some d → D.getD j none ≠ some d := by
   intro i j d hi hj h1 h2
   rw [List.all_eq_true] at hnd
   have := hnd i (List.mem_range.2 hi)
   rw [List.all_eq_true] at this
   have := this j (List.mem_range.2 hj)
   rw [h1, h2] at this
   simp at this
  intro i j d hi hj hij h1 h2
  rcases Nat.lt_or_gt_of_ne hij with h | h
  · exact half j i d hj h h2 h1
  exact half i j d hi h h1 h2
 intro fuel
 induction fuel with
 | zero =>
   intro listed a w hsz hc hcl hinv
   have hall : ∀ i, i < ops.size → listed.getD i false = true := by
    intro i hi
    have h0 : listed.toList.count false = 0 := by omega
    rw [List.count_eq_zero] at h0
    cases hl : listed.getD i false with
    | true => rfl
    | false =>
      exfalso; apply h0
      simp only [Array.getD_eq_getD_getElem?, Array.getElem?_eq_getElem (show i < listed.size by omega), Option.getD_some] at hl
      rw [← hl]; simp
   refine ⟨?_, ?_⟩
   · unfold Region.ready
     rw [List.filter_eq_nil_iff]
     intro i hi
     have := hall i (List.mem_range.1 hi)
     have h1 : listed.getD i true = true := by
      simp only [Array.getD_eq_getD_getElem?] at this ⊢
      rw [Array.getElem?_eq_getElem (by have := List.mem_range.1 hi; omega)] at this ⊢
      simpa using this
     simp [h1]
   obtain ⟨hs, ⟨y, rfl, hj, hf⟩, hsd⟩ := hinv
   exact hend y w hs (by rw [← spent_all b listed.toList (by rw [hb, ← hsz]; simp) (fun j hjl => by have := hall j (by rw [← hsz]; simpa using hjl); simpa [Array.getD_eq_getD_getElem?] using this)]; exact hj) (MFacts.of (fun j hj d hd => hf j d (hall j (hFin j hj)) (.inl hj) hd) fun j hj hd => hsd j (hall j (hFin j hj)) (.inl hj) hd)
 | succ fuel ih =>
   intro listed a w hsz hc hcl hinv
   refine ⟨fun hr => ?_, fun i hi => ?_⟩
   · have hall := rg_all_listed hsz hedge hr
     obtain ⟨hs, ⟨y, rfl, hj, hf⟩, hsd⟩ := hinv
     exact hend y w hs (by rw [← spent_all b listed.toList (by rw [hb, ← hsz]; simp) (fun j hjl => by have := hall j (by rw [← hsz]; simpa using hjl); simpa [Array.getD_eq_getD_getElem?] using this)]; exact hj) (MFacts.of (fun j hj d hd => hf j d (hall j (hFin j hj)) (.inl hj) hd) fun j hj hd => hsd j (hall j (hFin j hj)) (.inl hj) hd)
   obtain ⟨hs, ⟨y, rfl, hj, hf⟩, hsd⟩ := hinv
   unfold Region.ready at hi
   rw [List.mem_filter] at hi
   obtain ⟨hi1, hi2⟩ := hi
   have hi1 := List.mem_range.1 hi1
   simp only [Bool.and_eq_true] at hi2
   obtain ⟨hl, hread⟩ := hi2
   have ho : ops[i]? = some ops[i] := Array.getElem?_eq_getElem hi1
   rw [ho] at hread
   simp only [Option.map_some, Option.getD_some] at hread
   have hlf : listed.getD i false = false := by
    simp only [Array.getD_eq_getD_getElem?] at hl ⊢
    rw [Array.getElem?_eq_getElem (by omega)] at hl ⊢
    simpa using hl
   have hlist : ∀ e ∈ (ops[i]).after.toList, Region.binds .any e = true → listed.getD e.on false = true := by
    intro e he hb
    rw [Array.all_eq_true'] at hread
    have := hread e (by simpa using he)
    simpa [hb] using this
   have hanc : ∀ j ∈ A.getD i [], listed.getD j false = true := by
    intro j hj
    rw [List.all_eq_true] at hA
    have h1 := hA i (List.mem_range.2 hi1)
    rw [List.all_eq_true] at h1
    have h2 := h1 j hj
    have h2 : j ∈ (ancsOf ops.toList).getD i [] := by simpa using h2
    have h3 := ancs_listed ops.toList (fun k => k = i ∨ listed.getD k false = true)
     (fun k o hk hL e he hb => by
       have hk : ops[k]? = some o := by simpa using hk
       rcases hL with rfl | hL
       · obtain rfl : ops[k] = o := by rw [ho] at hk; exact Option.some.inj hk
         exact .inr (hlist e he hb)
       · exact .inr (hcl k o hk hL e he hb)) i (.inl rfl) j h2
    rcases h3 with rfl | h3
    ·
     exfalso
     have hlt : ∀ i j, j ∈ (ancsOf ops.toList).getD i [] → j < i := by
      intro i0 j0 h0
      exact (ancs_lt ops.toList (fun k o hk e he hb => hedge k o (by simpa using hk) e he hb) i0 j0 h0)
     exact absurd (hlt _ _ h2) (Nat.lt_irrefl _)
    exact h3
   have hsp : spent b (listed.setIfInBounds i true).toList = spent b listed.toList + b.getD i 0 := by
    rw [Array.toList_setIfInBounds]
    exact spent_set b listed.toList i (by simpa [Array.getD_eq_getD_getElem?, Array.getElem?_eq_getElem (show i < listed.size by omega)] using hlf) (by simpa using (show i < listed.size by omega))
   have hK : ∀ v w', (bif M.getD i false then S w w' else N w w') → J (updY ops[i].dst v y) w' (spent b listed.toList + b.getD i 0) → (Φ.getD i .any).p (bif ops[i].dst.isSome then v else undef) w' →
    wpAny P .any ops Q fuel (listed.setIfInBounds i true) ((⟨(fillL y 0 T mask).toArray, ds⟩ : Act).put ops[i].dst v) w' := by
    intro v w' hs0 hj' hv
    have hs' : S w w' := by
     cases hm : M.getD i false with
     | true => rw [hm] at hs0; exact hs0
     | false => rw [hm] at hs0; exact hNS _ _ hs0
    have hlive : ∀ j, liveOp ops A Fin (listed.setIfInBounds i true) j → liveOp ops A Fin listed j := by
     intro j hj
     rcases hj with hj | ⟨k, hk, hkA, hkl⟩
     · exact .inl hj
     refine .inr ⟨k, hk, hkA, ?_⟩
     simp only [Array.getD_eq_getD_getElem?, Array.getElem?_setIfInBounds] at hkl ⊢
     by_cases hki : i = k
     · subst hki
       rw [if_pos rfl, if_pos (by omega)] at hkl
       simp at hkl
     rw [if_neg hki] at hkl
     exact hkl
    have hstab : ∀ j v0, j ≠ i → listed.getD j false = true → liveOp ops A Fin (listed.setIfInBounds i true) j → (Φ.getD j .any).p v0 w → (Φ.getD j .any).p v0 w' := by
     intro j v0 hji hjl hjv hp
     cases hm : M.getD i false with
     | false => rw [hm] at hs0; exact (Φ.getD j .any).ext _ _ _ hs0 hp
     | true =>
       unfold rgmCheck at hmc
       rw [List.all_eq_true] at hmc
       have h1 := hmc i (List.mem_range.2 hi1)
       rw [hm] at h1
       simp only [Bool.not_true, Bool.false_or] at h1
       by_cases hjs : j < ops.size
       · rw [List.all_eq_true] at h1
         have h2 := h1 j (List.mem_range.2 hjs)
         simp only [Bool.or_eq_true, beq_iff_eq, Bool.and_eq_true, Bool.not_eq_true'] at h2
         rcases h2 with ((h2 | h2) | h2) | ⟨h2, h3⟩
         · exact absurd h2 hji
         · refine (Φ.getD j .any).own ?_ _ _ _ hs' hp
           rw [← hH] at h2
           simp only [List.getD_eq_getElem?_getD, List.getElem?_map] at h2 ⊢
           cases hg : Φ[j]? with
           | none => rfl
           | some x => rw [hg] at h2; simpa using h2
         · exfalso
           have h2 : i ∈ (ancsOf ops.toList).getD j [] := by simpa using h2
           have := ancs_listed ops.toList (fun k => listed.getD k false = true) (fun k o hk hL e he hb => hcl k o (by simpa using hk) hL e he hb) j hjl i h2
           rw [hlf] at this; cases this
         exfalso
         rcases hjv with hjv | ⟨k, hk, hkA, hkl⟩
         · simp at h2; exact h2 hjv
         rw [List.all_eq_true] at h3
         have h4 := h3 k (List.mem_range.2 hk)
         simp only [Bool.or_eq_true, beq_iff_eq, Bool.not_eq_true'] at h4
         rcases h4 with (h4 | h4) | h4
         · have : (A.getD k []).contains j = true := by simpa using hkA
           rw [this] at h4; cases h4
         · subst h4
           simp [Array.getD_eq_getD_getElem?, Array.getElem?_setIfInBounds, show k < listed.size by omega] at hkl
         have h4 : k ∈ (ancsOf ops.toList).getD i [] := by simpa using h4
         have hkt : k ≠ i := fun e => by
          have hlt : ∀ i j, j ∈ (ancsOf ops.toList).getD i [] → j < i := fun i0 j0 h0 => (ancs_lt ops.toList (fun k o hk e he hb => hedge k o (by simpa using hk) e he hb) i0 j0 h0)
          have := hlt i k h4; omega
         have h5 := ancs_listed ops.toList (fun k => k = i ∨ listed.getD k false = true)
          (fun k o hk hL e he hb => by
            have hk : ops[k]? = some o := by simpa using hk
            rcases hL with rfl | hL
            · obtain rfl : ops[k] = o := by rw [ho] at hk; exact Option.some.inj hk
              exact .inr (hlist e he hb)
            · exact .inr (hcl k o hk hL e he hb)) i (.inl rfl) k h4
         rcases h5 with h5 | h5
         · exact hkt h5
         simp only [Array.getD_eq_getD_getElem?, Array.getElem?_setIfInBounds] at hkl h5
         rw [if_neg (fun h => hkt h.symm), h5] at hkl
         cases hkl
       exfalso
       have : listed.getD j false = false := by simp [Array.getD_eq_getD_getElem?, Array.getElem?_eq_none (show listed.size ≤ j by omega)]
       rw [this] at hjl; cases hjl
    refine ih _ _ _ (by simpa using hsz) ?_ ?_ ?_
    · have h1 : i < listed.toList.length := by simpa using (show i < listed.size by omega)
      rw [Array.toList_setIfInBounds, List.count_set h1]
      have h2 : listed.toList[i] = false := by
       simp only [Array.getD_eq_getD_getElem?, Array.getElem?_eq_getElem (show i < listed.size by omega), Option.getD_some] at hlf
       simpa using hlf
      have h3 : 0 < listed.toList.count false := List.count_pos_iff.2 (h2 ▸ List.getElem_mem _)
      rw [h2]; simp only [beq_self_eq_true, if_true, Bool.true_eq_false, if_false, (by decide : ((true : Bool) == false) = false), Bool.false_eq_true]; omega
    · intro k o hk hL e he hb
      have hset : ∀ m, listed.getD m false = true → (listed.setIfInBounds i true).getD m false = true := by
       intro m hm
       simp only [Array.getD_eq_getD_getElem?, Array.getElem?_setIfInBounds] at hm ⊢
       split
       · split
         · rfl
         rename_i h1 h2; omega
       exact hm
      by_cases hki : k = i
      · subst hki
        obtain rfl : ops[k] = o := by rw [ho] at hk; exact Option.some.inj hk
        exact hset _ (hlist e he hb)
      have : listed.getD k false = true := by
       simp only [Array.getD_eq_getD_getElem?, Array.getElem?_setIfInBounds] at hL ⊢
       rw [if_neg (fun h => hki h.symm)] at hL
       exact hL
      exact hset _ (hcl k o hk this e he hb)
    refine ⟨hSt hs hs', ?_, fun j hj hjv hjd => ?_⟩
    rotate_left
    · by_cases hji : j = i
      · subst hji
        rw [hget j _ ho] at hjd
        rw [hjd] at hv
        exact hv
      have hL : listed.getD j false = true := by
       simp only [Array.getD_eq_getD_getElem?, Array.getElem?_setIfInBounds] at hj ⊢
       rw [if_neg (fun h => hji h.symm)] at hj
       exact hj
      exact hstab j _ hji hL hjv (hsd j hL (hlive j hjv) hjd)
    cases hd : ops[i].dst with
    | none =>
      refine ⟨y, rfl, by rw [hsp]; rw [hd] at hj'; exact hj', fun j d hj hjv hjd => ?_⟩
      have hji : j ≠ i := by rintro rfl; rw [hget j _ ho, hd] at hjd; cases hjd
      have : listed.getD j false = true := by
       simp only [Array.getD_eq_getD_getElem?, Array.getElem?_setIfInBounds] at hj ⊢
       rw [if_neg (fun h => hji h.symm)] at hj
       exact hj
      exact hstab j _ hji this hjv (hf j d this (hlive j hjv) hjd)
    | some e =>
      obtain ⟨he1, he2⟩ := hdlt i _ e ho hd
      refine ⟨fun t => if t = e then v else y t, ?_, by rw [hsp]; rw [hd] at hj'; exact hj', fun j d hj hjv hjd => ?_⟩
      · simp only [Act.put]
        rw [← fill_set y T mask e v he1 he2]
        simp
      by_cases hji : j = i
      · subst hji
        have : d = e := by rw [hget j _ ho, hd] at hjd; exact (Option.some.inj hjd).symm
        subst this
        simp only [if_true]
        rw [hd] at hv
        exact hv
      have hL : listed.getD j false = true := by
       simp only [Array.getD_eq_getD_getElem?, Array.getElem?_setIfInBounds] at hj ⊢
       rw [if_neg (fun h => hji h.symm)] at hj
       exact hj
      have hjlt : j < ops.size := by
       rcases Nat.lt_or_ge j ops.size with h | h
       · exact h
       rw [hD, List.getD_eq_getElem?_getD, List.getElem?_eq_none (by simpa using h)] at hjd
       simp at hjd
      have hde : d ≠ e := by
       rintro rfl
       exact hne j i d hjlt hi1 hji hjd (by rw [hget i _ ho, hd])
      simp only [if_neg hde]
      exact hstab j _ hji hL hjv (hf j d hL (hlive j hjv) hjd)
   have hob := hobs.at_ i ops[i] (by simpa using ho) y w (spent b listed.toList) hs hj (by
    rw [Nat.zero_add]
    have h1 := wCheck_le hW hi1
    have h2 := spent_add b listed.toList (descM ops i) (fun j hj => by
     cases hm : (descM ops i)[j]?.getD false with
     | false => rfl
     | true =>
       exfalso
       have hj2 : listed.getD j false = true := by simpa [Array.getD_eq_getD_getElem?] using hj
       unfold descM at hm
       rw [List.getElem?_map] at hm
       rcases hr : (List.range ops.size)[j]? with _ | j'
       · rw [hr] at hm; simp at hm
       · obtain rfl : j = j' := by
          have := List.getElem?_eq_some_iff.1 hr
          obtain ⟨_, e⟩ := this
          simpa using e
         rw [hr] at hm
         simp only [Option.map_some, Option.getD_some, Bool.or_eq_true, beq_iff_eq] at hm
         rcases hm with rfl | hm
         · rw [hlf] at hj2; cases hj2
         · have hin : i ∈ (ancsOf ops.toList).getD j [] := by simpa using hm
           have h3 := ancs_listed ops.toList (fun k => listed.getD k false = true) (fun k o hk hL e he hb => hcl k o (by simpa using hk) hL e he hb) j hj2 i hin
           rw [hlf] at h3; cases h3)
    omega) (by
    rw [Nat.zero_add]
    exact MFacts.of (fun j hj d hd => hf j d (hanc j hj) (.inr ⟨i, hi1, hj, hlf⟩) hd) fun j hj hd => hsd j (hanc j hj) (.inr ⟨i, hi1, hj, hlf⟩) hd) _ (by rw [Nat.zero_add]; exact hK)
   unfold wpOp
   rw [ho]
   simp only []
   split
   · rename_i hw
     rw [if_pos hw] at hob
     exact .inl hob
   rename_i hw
   rw [if_neg hw] at hob
   exact hob
theorem wp_region_rgz {id : Nat} {w : World} (S N : World → World → Prop) (J : (Nat → Value) → World → Nat → Prop) (b W : List Nat) (hm : P.follows .mixedOrders = true) (mask : List Bool) (D : List (Option Nat)) (A : List (List Nat)) (M H : List Bool) (Fin : List Nat) (Φ : List (MStP S N))
 (hcheck : rgCheck ops D A mask T.length = true) (hmc : rgmCheck ops A M H Fin = true) (hW : wCheck ops b W = true) (hFin : (Fin.all fun j => decide (j < ops.size)) = true)
 (hobs : YObs P ops Q w T ds mask D Φ J b W A M 0 ops.toList) (hH : Φ.map MStP.hd = H)
 (hNS : ∀ a b, N a b → S a b) (hSt : ∀ {a b c}, S a b → S b c → S a c) (hb : b.length = ops.size) (hdrew : S w w.drew) (hj0 : ∀ y, J y w.drew 0)
 (hend : ∀ y w', S w w' → J y w' b.sum → MFacts D Φ y w' Fin → Q .normal ⟨(fillL y 0 T mask).toArray, ds⟩ w') :
 (Code.region id ops true).wp P Q ⟨T.toArray, ds⟩ w :=
 wp_region_any hm (zrg_any hcheck hmc hW (fun j hj => by rw [List.all_eq_true] at hFin; simpa using hFin j hj) hH hobs hNS hSt hb hend _ _ _ _ (by simp) (by simp) (by
  intro i o _ h
  simp [Array.getD, Array.getElem?_replicate] at h) ⟨hdrew, ⟨_, by rw [fill_self], by rw [show spent b (Array.replicate ops.size false).toList = 0 by simp [spent_none]]; exact hj0 _, by intro j d h; simp [Array.getD, Array.getElem?_replicate] at h⟩, by intro j h; simp [Array.getD, Array.getElem?_replicate] at h⟩)
end
end
end
section
open Go.RowKit
def RowAt (w : World) (A : Option Addr) (m : Nat) (vs : List Value) : Prop :=
 vs.length = m ∧ (0 < m → ∃ b off, A = some ⟨b, off, none⟩ ∧ ∀ j, j < m → w.cell? ⟨b, off + j, none⟩ = vs[j]?)
theorem add_plain (b off j : Nat) : (⟨b, off, none⟩ : Addr).add j = ⟨b, off + j, none⟩ := by
 unfold Addr.add
 split <;> simp_all
section
variable {w w' : World} {A : Option Addr} {m : Nat} {vs : List Value}
theorem RowAt.at_ (h : RowAt w A m vs) {k : Nat} (hk : k < m) : ∃ b off, A = some ⟨b, off, none⟩ ∧ b < w.heap.size ∧ ∀ j, j < m → w.cell? ⟨b, off + j, none⟩ = vs[j]? := by
 obtain ⟨h1, h2⟩ := h
 obtain ⟨b, off, hA, hc⟩ := h2 (by omega)
 exact ⟨b, off, hA, World.block_lt_of_cell? w _ ((hc k hk).trans (List.getElem?_eq_getElem (by omega))), hc⟩
theorem RowAt.news (h : RowAt w A m vs) {ad : Addr} (hA : A = some ad) : ∀ j u, vs[j]? = some u → w.cell? (ad.add j) = some u := by
 intro j u hu
 have hj : j < m := by
  have := h.1
  rcases Nat.lt_or_ge j vs.length with h | h
  · omega
  rw [List.getElem?_eq_none h] at hu; cases hu
 obtain ⟨b, off, hA', _, hc⟩ := h.at_ hj
 rw [hA] at hA'
 injection hA' with e
 subst e
 rw [add_plain, hc j hj, hu]
end
def OwnRow (w : World) (e : TypeId) (k : Nat) (S : List Nat) (A : Option Addr) (n c : Nat) (vs : List Value) : Prop :=
 (S = [] ∧ n = 0 ∧ vs = [] ∧ (A = none → c = 0)) ∨
 ∃ g cur, S = [g] ∧ A = some ⟨g, 0, none⟩ ∧ vs.length = n * k ∧ n ≤ c ∧ c ≤ maxLen ∧ w.heap[g]? = some (.cells cur e (0, 0)) ∧ cur.size = c * k ∧ ∀ j, j < n * k → cur[j]? = vs[j]?
section
variable {w w' : World} {e : TypeId} {k : Nat} {S : List Nat} {A : Option Addr} {n c : Nat} {vs : List Value}
theorem OwnRow.lt (h : OwnRow w e k S A n c vs) : ∀ g ∈ S, g < w.heap.size := by
 rcases h with ⟨rfl, _⟩ | ⟨g, cur, rfl, _, _, _, _, hg, _⟩
 · simp
 simpa using (Array.getElem?_eq_some_iff.1 hg).1
theorem OwnRow.keep (h : OwnRow w e k S A n c vs) (hk : ∀ g ∈ S, w'.heap[g]? = w.heap[g]?) : OwnRow w' e k S A n c vs := by
 rcases h with h | ⟨g, cur, rfl, h1, h2, h3, h4, hg, h5⟩
 · exact .inl h
 exact .inr ⟨g, cur, rfl, h1, h2, h3, h4, (hk g (by simp)).trans hg, h5⟩
theorem OwnRow.below (h : OwnRow w e k S A n c vs) (hb : Below w.heap.size w w') : OwnRow w' e k S A n c vs := h.keep fun g hg => hb.block g (h.lt g hg)
theorem OwnRow.at_ (h : OwnRow w e k S A n c vs) : RowAt w A (n * k) vs := by
 rcases h with ⟨_, rfl, rfl, _⟩ | ⟨g, cur, _, rfl, h2, _, _, hg, _, h5⟩
 · exact ⟨by simp, fun h => absurd h (by simp)⟩
 exact ⟨h2, fun _ => ⟨g, 0, rfl, fun j hj => by rw [Nat.zero_add, cell_of_row w g j cur _ (0, 0) hg]; exact h5 j hj⟩⟩
theorem ownRow_of {base : Nat} {v : Value} (h : w.ownsRow base e k v n vs) :
 ∃ A c S, v = .slice A n c ∧ OwnRow w e k S A n c vs ∧ (∀ g ∈ S, base ≤ g) ∧ n ≤ c ∧ (S = [] → n = 0) := by
 obtain ⟨hl, h⟩ := h
 rcases h with ⟨rfl, rfl⟩ | ⟨g, cap, cur, rfl, hg, hh, h1, h2, h3, h4⟩
 · exact ⟨none, 0, [], rfl, .inl ⟨rfl, rfl, by simpa using hl, fun _ => rfl⟩, by simp, Nat.le_refl _, fun _ => rfl⟩
 refine ⟨some ⟨g, 0, none⟩, cap, [g], rfl, .inr ⟨g, cur, rfl, rfl, hl, h1, h2, hh, h3, fun j hj => ?_⟩, by simpa using hg, h1, by simp⟩
 rw [← h4, List.getElem?_take, if_pos hj]
 simp
end
section
variable {P : Program}
theorem run_append_fresh (w : World) (t ty e : TypeId) (i : TypeInfo) (z : Value) (size bytes : Nat) (ht : P.underlying t = some (.slice e)) (hi : P.info? e = some i) (hz : i.zero = some z)
 (hsize : i.size = size) (hby : i.bytes = bytes) (hzs : z.cells.size = size) (hsz : 0 < size) (X A : Option Addr) (m c : Nat) (vs : List Value) (hA : RowAt w A (m * size) vs) (h1 : ∀ u ∈ vs, u.oneCell' = true)
 (h63 : m ≤ maxLen) (hbytes : m * bytes ≤ 140737488355328) :
 ∃ A' c' S w', (Builtin.append_ #[t, t] ty #[.slice X 0 0, .slice A m c]).run P w = .ok (.slice A' m c') w' ∧ OwnRow w' e size S A' m c' vs ∧ (∀ g ∈ S, w.heap.size ≤ g) ∧ Below w.heap.size w w' ∧ m ≤ c' := by
 rcases Nat.eq_zero_or_pos m with h0 | h0
 · subst h0
   have hv : vs = [] := List.eq_nil_of_length_eq_zero (by simpa using hA.1)
   refine ⟨X, 0, [], w, ?_, .inl ⟨rfl, rfl, hv, fun _ => rfl⟩, by simp, Below.refl _ _, Nat.le_refl _⟩
   rcases X with _ | x <;> rcases A with _ | ad <;> simp [Builtin.append_, run_underlying ht, sizeOf, typeInfo, hi, Builtin.lenOf, Builtin.firstCells, loadCells, loadCellsFrom, storeCells]
 have hp : 0 < m * size := Nat.mul_pos h0 hsz
 obtain ⟨b, off, rfl, _, hc⟩ := hA.at_ hp
 have hnews := hA.news rfl
 rcases X with _ | x
 · obtain ⟨v', w', hr, ho, hg, _⟩ := run_append_own (P := P) w w.heap.size t ty e i z size bytes ht hi hz hsize hby hzs hsz (.slice none 0 0) 0 [] (World.ownsRow_nil _ _ _ _) ⟨b, off, none⟩ m c vs hA.1 hnews h1 (by omega) (by simpa using hbytes) (Nat.le_refl _)
   simp only [Nat.zero_add, List.nil_append] at ho
   obtain ⟨A', c', S, rfl, ho', hS, hcc, _⟩ := ownRow_of ho
   exact ⟨A', c', S, w', hr, ho', hS, (Below.refl _ _).grown hg (Nat.le_refl _) (by simp [Value.ownBlock]), hcc⟩
 obtain ⟨v', w', hr, ho, hg⟩ := run_append_arg_grows (P := P) w t ty e i z size bytes ht hi hz hsize hby hzs hsz x 0 0 [] (by simp) (by simp) ⟨b, off, none⟩ m c vs hA.1 hnews (by omega) (by omega) (by simpa using hbytes)
 simp only [Nat.zero_add, List.nil_append] at ho
 obtain ⟨A', c', S, rfl, ho', hS, hcc, _⟩ := ownRow_of ho
 exact ⟨A', c', S, w', hr, ho', hS, (Below.refl _ _).grown hg (Nat.le_refl _) (by simp), hcc⟩
end
section
variable {w : World} {A : Option Addr} {n c : Nat} {S : List Nat} {xs : List Int}
end
end
section
open Go.RowKit
def OwnA (w : World) (e : TypeId) (k : Nat) (S : List Nat) (A : Option Addr) (n c : Nat) (vs : List Value) : Prop :=
 OwnRow w e k S A n c vs ∧ (S = [] → c = 0)
section
variable {w w' : World} {e : TypeId} {k : Nat} {S : List Nat} {A : Option Addr} {n c : Nat} {vs : List Value}
theorem OwnA.lt (h : OwnA w e k S A n c vs) : ∀ g ∈ S, g < w.heap.size := h.1.lt
theorem OwnA.below (h : OwnA w e k S A n c vs) (hb : Below w.heap.size w w') : OwnA w' e k S A n c vs := ⟨h.1.below hb, h.2⟩
theorem OwnA.nil (X : Option Addr) : OwnA w e k [] X 0 0 [] := ⟨.inl ⟨rfl, rfl, rfl, fun _ => rfl⟩, fun _ => rfl⟩
theorem OwnA.at_ (h : OwnA w e k S A n c vs) : RowAt w A (n * k) vs := h.1.at_
theorem OwnA.none_ (h : OwnA w e k S A n c vs) (hA : A = none) : n = 0 ∧ c = 0 := by
 rcases h.1 with ⟨_, h1, _, h2⟩ | ⟨g, cur, _, h1, _⟩
 · exact ⟨h1, h2 hA⟩
 rw [hA] at h1; cases h1
theorem OwnA.le (h : OwnA w e k S A n c vs) : n ≤ c := by
 rcases h.1 with ⟨_, h1, _, h2⟩ | ⟨g, cur, _, _, _, h1, _⟩
 · omega
 exact h1
theorem OwnA.cap (h : OwnA w e k S A n c vs) : c ≤ maxLen := by
 rcases h.1 with ⟨h0, _, _, _⟩ | ⟨g, cur, _, _, _, _, h1, _⟩
 · rw [h.2 h0]; exact Nat.zero_le _
 exact h1
end
theorem RowAt.lit {w : World} {e : TypeId} {cur : Array Value} {m : Nat} (hm : cur.size = m) : RowAt (w.alloc (.cells cur e)) (some ⟨w.heap.size, 0, none⟩) m cur.toList := by
 refine ⟨by simpa using hm, fun _ => ⟨_, _, rfl, fun j hj => ?_⟩⟩
 rw [Nat.zero_add, cell_of_row _ _ j cur _ (0, 0) (heap_alloc_new w _)]
 simp
theorem OwnA.lit {w : World} {e : TypeId} {k : Nat} {cur : Array Value} {m : Nat} (hm : cur.size = m * k) (hmax : m ≤ maxLen) : OwnA (w.alloc (.cells cur e)) e k [w.heap.size] (some ⟨w.heap.size, 0, none⟩) m m cur.toList :=
 ⟨.inr ⟨_, cur, rfl, rfl, by simpa using hm, Nat.le_refl _, hmax, heap_alloc_new w _, hm, fun j hj => by simp⟩, fun h => by simp at h⟩
section
variable {P : Program}
theorem run_append_row (w : World) (t ty e : TypeId) (i : TypeInfo) (z : Value) (size bytes : Nat) (ht : P.underlying t = some (.slice e)) (hi : P.info? e = some i) (hz : i.zero = some z)
 (hsize : i.size = size) (hby : i.bytes = bytes) (hzs : z.cells.size = size) (hsz : 0 < size) (S : List Nat) (A B : Option Addr) (n c m d : Nat) (vs us : List Value) (hA : OwnA w e size S A n c vs) (hB : RowAt w B (m * size) us)
 (h1 : ∀ u ∈ us, u.oneCell' = true) (h63 : n + m ≤ maxLen) (hbytes : (n + m) * bytes ≤ 140737488355328) :
 ∃ A' c' S' w', (Builtin.append_ #[t, t] ty #[.slice A n c, .slice B m d]).run P w = .ok (.slice A' (n + m) c') w' ∧ OwnA w' e size S' A' (n + m) c' (vs ++ us) ∧ (∀ g ∈ S', g ∈ S ∨ w.heap.size ≤ g) ∧ Chg (· ∈ S) w w' := by
 obtain ⟨ho, hc0⟩ := hA
 rcases ho with ⟨rfl, rfl, rfl, hn⟩ | ⟨g, cur, rfl, rfl, hl, hnc, hcm, hg, hcs, hcc⟩
 · obtain rfl := hc0 rfl
   obtain ⟨A', c', S', w', hr, ho, hS, hb, hmc⟩ := run_append_fresh (P := P) w t ty e i z size bytes ht hi hz hsize hby hzs hsz A B m d us hB h1 (by omega) (by simpa using hbytes)
   rcases Nat.eq_zero_or_pos m with h0 | h0
   · subst h0
     have hu : us = [] := List.eq_nil_of_length_eq_zero (by simpa using hB.1)
     subst hu
     refine ⟨A, 0, [], w, ?_, OwnA.nil A, by simp, Chg.refl _ _⟩
     rcases A with _ | x <;> rcases B with _ | ad <;> simp [Builtin.append_, run_underlying ht, sizeOf, typeInfo, hi, Builtin.lenOf, Builtin.firstCells, loadCells, loadCellsFrom, storeCells]
   refine ⟨A', c', S', w', by simpa using hr, ⟨by simpa using ho, fun hS0 => ?_⟩, fun g hg => .inr (hS g hg), Chg.of_below hb _⟩
   subst hS0
   rcases ho with ⟨_, h, _⟩ | ⟨g, _, h, _⟩
   · omega
   cases h
 rcases B with _ | ad
 · have hm0 : m = 0 := by
    rcases Nat.eq_zero_or_pos m with h | h
    · exact h
    obtain ⟨b, off, hb, _⟩ := hB.2 (Nat.mul_pos h hsz)
    cases hb
   subst hm0
   have hu : us = [] := List.eq_nil_of_length_eq_zero (by simpa using hB.1)
   subst hu
   refine ⟨some ⟨g, 0, none⟩, c, [g], w, ?_, ⟨.inr ⟨g, cur, rfl, rfl, by simpa using hl, by simpa using hnc, hcm, hg, hcs, by simpa using hcc⟩, fun h => by simp at h⟩, fun g hg => .inl hg, Chg.refl _ _⟩
   have hle : n ≤ c := hnc
   simp [Builtin.append_, run_underlying ht, sizeOf, typeInfo, hi, Builtin.lenOf, Builtin.firstCells, loadCells, loadCellsFrom, storeCells, hle]
 have hown : w.ownsRow g e size (.slice (some ⟨g, 0, none⟩) n c) n vs := by
  refine ⟨hl, .inr ⟨g, c, cur, rfl, Nat.le_refl _, hg, hnc, hcm, hcs, ?_⟩⟩
  apply List.ext_getElem?
  intro j
  rw [List.getElem?_take]
  split
  · rename_i hj
    rw [Array.getElem?_toList, hcc j hj]
  rename_i hj
  rw [List.getElem?_eq_none (by omega)]
 have hgl : g < w.heap.size := (Array.getElem?_eq_some_iff.1 hg).1
 obtain ⟨v', w', hr, ho', hgr, hiff, hblk⟩ := run_append_own_at (P := P) w g t ty e i z size bytes ht hi hz hsize hby hzs hsz _ n vs hown ad m d us hB.1 (hB.news rfl) h1 h63 hbytes (by omega)
 rcases ho'.2 with ⟨hv, _⟩ | ⟨g', cap, cur', rfl, _, hg', hn', hcm', hcs', htk⟩
 · have := (hiff.1 hv).1
   simp at this
 refine ⟨_, cap, [g'], w', hr, ⟨.inr ⟨g', cur', rfl, rfl, ho'.1, hn', hcm', hg', hcs', fun j hj => ?_⟩, fun h => by simp at h⟩, fun k hk => ?_, ⟨hgr.os, hgr.tape, hgr.output, hgr.size, fun k hk hs => hgr.block k hk (by simpa [Value.ownBlock] using fun h => hs (by simp [h]))⟩⟩
 · rw [← htk, List.getElem?_take, if_pos hj]
   simp
 simp at hk
 subst hk
 rcases hblk with h | h
 · left; simpa [Value.ownBlock] using h
 right; simp [Value.ownBlock] at h; omega
theorem wp_append_row {o : Oper} {a : Act} {w : World} {K : Act → World → Prop} {Q : Exit → Act → World → Prop} (s x : Operand) (t : TypeId)
 (ho : o.op = .call { callee := .builtin .append, args := #[s, x], argTypes := #[t, t] })
 (e : TypeId) (i : TypeInfo) (z : Value) (size bytes : Nat) (ht : P.underlying t = some (.slice e)) (hi : P.info? e = some i) (hz : i.zero = some z)
 (hsize : i.size = size) (hby : i.bytes = bytes) (hzs : z.cells.size = size) (hsz : 0 < size) (S : List Nat) (A B : Option Addr) (n c m d : Nat) (vs us : List Value) (hs : a.eval s = .slice A n c) (hx : a.eval x = .slice B m d)
 (hA : OwnA w e size S A n c vs) (hB : RowAt w B (m * size) us) (h1 : ∀ u ∈ us, u.oneCell' = true) (h63 : n + m ≤ maxLen) (hbytes : (n + m) * bytes ≤ 140737488355328)
 (h : ∀ A' c' S' w', OwnA w' e size S' A' (n + m) c' (vs ++ us) → (∀ g ∈ S', g ∈ S ∨ w.heap.size ≤ g) → Chg (· ∈ S) w w' → K (a.put o.dst (.slice A' (n + m) c')) w') : o.wp P a w K Q := by
 obtain ⟨A', c', S', w', hr, h2, h3, h4⟩ := run_append_row (P := P) w t o.type e i z size bytes ht hi hz hsize hby hzs hsz S A B n c m d vs us hA hB h1 h63 hbytes
 unfold Oper.wp execOp
 simp only [ho, resolve, invoke, builtin, Sem.run_bind, Sem.run_pure, Result.andThen_ok, List.map_toArray, List.map_cons, List.map_nil, hs, hx, hr]
 exact h A' c' S' w' h2 h3 h4
theorem wpList_append_row {ops : Array Oper} {rest : List Oper} {o : Oper} {a : Act} {w : World} {Q : Exit → Act → World → Prop} (hgd : o.guard = none) (s x : Operand) (t : TypeId)
 (ho : o.op = .call { callee := .builtin .append, args := #[s, x], argTypes := #[t, t] })
 (e : TypeId) (i : TypeInfo) (z : Value) (size bytes : Nat) (ht : P.underlying t = some (.slice e)) (hi : P.info? e = some i) (hz : i.zero = some z)
 (hsize : i.size = size) (hby : i.bytes = bytes) (hzs : z.cells.size = size) (hsz : 0 < size) (S : List Nat) (A B : Option Addr) (n c m d : Nat) (vs us : List Value) (hs : a.eval s = .slice A n c) (hx : a.eval x = .slice B m d)
 (hA : OwnA w e size S A n c vs) (hB : RowAt w B (m * size) us) (h1 : ∀ u ∈ us, u.oneCell' = true) (h63 : n + m ≤ maxLen) (hbytes : (n + m) * bytes ≤ 140737488355328)
 (h : ∀ A' c' S' w', OwnA w' e size S' A' (n + m) c' (vs ++ us) → (∀ g ∈ S', g ∈ S ∨ w.heap.size ≤ g) → Chg (· ∈ S) w w' → wpList P ops Q rest (a.put o.dst (.slice A' (n + m) c')) w') : wpList P ops Q (o :: rest) a w :=
 wpList_plain hgd fun _ hK => wp_append_row s x t ho e i z size bytes ht hi hz hsize hby hzs hsz S A B n c m d vs us hs hx hA hB h1 h63 hbytes fun A' c' S' w' h2 h3 h4 => hK _ _ (h A' c' S' w' h2 h3 h4)
end
end
theorem celR {w : World} {g : Nat} {cs : Array Value} {t : TypeId} (j : Nat) (h : w.heap[g]? = some (.cells cs t (0, 0))) : w.cell? ⟨g, j, none⟩ = cs[j]? := cell_of_row w g j cs t (0, 0) h
end Go.Proofs.YtjnhiiaejeaikaaGreatDoor
