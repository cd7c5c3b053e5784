/- SpaceOk of the reference returns the plain test spOk. No condition. -/
import Derived.Test.YtjnhiiaejeaikaaGreatDoorRTypes
import Derived.Lib.SliceRun
import Derived.Maps.AppendAt
import Derived.Deep.DeepMust
import Derived.Deep.RegionWith
import Derived.Test.YtjnhiiaejeaikaaGreatDoorRLib
import Derived.Test.YtjnhiiaejeaikaaGreatDoorChecked
import Derived.RegionTactic
import Derived.BigRegion
set_option linter.unnecessarySimpa false
set_option linter.unusedSimpArgs false
set_option linter.unusedVariables false
namespace Go.Proofs.YtjnhiiaejeaikaaGreatDoor
open Go.RowKit
section
variable {w w' : World} {S : List Nat} {A B : Option Addr} {n c m d : Nat} {xs ys : List Int}
end
end Go.Proofs.YtjnhiiaejeaikaaGreatDoor
namespace Go.Proofs.YtjnhiiaejeaikaaGreatDoor
open Go.RowKit
end Go.Proofs.YtjnhiiaejeaikaaGreatDoor
namespace Go.Proofs.YtjnhiiaejeaikaaGreatDoor
open Go.RowKit
end Go.Proofs.YtjnhiiaejeaikaaGreatDoor
namespace Go.Proofs.YtjnhiiaejeaikaaGreatDoor
section
open Go.RowKit
theorem str_ne0 {a : ByteArray} (h : ¬ a.size = 0) : ¬ a.toList = [] := fun e => h (by
 rw [ByteArray.toList_eq] at e
 have := congrArg List.length e
 simpa using this)
theorem str_isE {a : ByteArray} (h : ¬ a.size = 0) : a.toList.isEmpty = false := by
 have := str_ne0 h
 cases hl : a.toList with
 | nil => exact absurd hl this
 | cons _ _ => rfl
theorem str_nil {a : ByteArray} (h : a.size = 0) : a = ⟨#[]⟩ := by
 cases a with
 | mk d => have : d.size = 0 := h; rw [Array.eq_empty_of_size_eq_zero this]
theorem all_no {α : Type} {f : α → Bool} {xs : List α} {k : Nat} {x : α} (hx : xs[k]? = some x) (h : f x = false) : xs.all f = false := by
 rw [List.all_eq_false]; exact ⟨x, List.mem_of_getElem? hx, by simp [h]⟩
theorem all_upto {α : Type} {f : α → Bool} {xs : List α} {n : Nat} (hn : xs.length = n) (h : ∀ j x, j < n → xs[j]? = some x → f x = true) : xs.all f = true := by
 rw [List.all_eq_true]; intro x hx
 obtain ⟨j, hj, rfl⟩ := List.mem_iff_getElem.1 hx
 exact h j _ (by omega) (List.getElem?_eq_getElem hj)
theorem upto_step {α : Type} {f : α → Bool} {xs : List α} {k : Nat} {x : α} (hp : ∀ j y, j < k → xs[j]? = some y → f y = true) (hx : xs[k]? = some x) (h : f x = true) : ∀ j y, j < k + 1 → xs[j]? = some y → f y = true := by
 intro j y hj hy
 rcases Nat.lt_or_ge j k with h2 | h2
 · exact hp j y h2 hy
 obtain rfl : j = k := by omega
 rw [hx] at hy; obtain rfl := Option.some.inj hy; exact h
end
section
open Go.RowKit
end
end Go.Proofs.YtjnhiiaejeaikaaGreatDoor
namespace Go.Proofs.YtjnhiiaejeaikaaGreatDoor
open Go.RowKit
def ancsD (ops : List Oper) : List (List Nat) :=
 ops.foldl (fun acc o => acc ++ [((o.after.toList.filter (Region.binds .any)).flatMap fun e => e.on :: acc.getD e.on []).eraseDups]) []
theorem ancsD_mem (ops : List Oper) (i j : Nat) : j ∈ (ancsD ops).getD i [] ↔ j ∈ (ancsOf ops).getD i [] := by
 have key : ∀ (rest : List Oper) (a b : List (List Nat)), a.length = b.length → (∀ i j, j ∈ a.getD i [] ↔ j ∈ b.getD i []) →
  ∀ i j, j ∈ (rest.foldl (fun acc o => acc ++ [((o.after.toList.filter (Region.binds .any)).flatMap fun e => e.on :: acc.getD e.on []).eraseDups]) a).getD i [] ↔
   j ∈ (rest.foldl (fun acc o => acc ++ [(o.after.toList.filter (Region.binds .any)).flatMap fun e => e.on :: acc.getD e.on []]) b).getD i [] := by
  intro rest
  induction rest with
  | nil => intro a b _ h; exact h
  | cons o rest ih =>
    intro a b hl h
    simp only [List.foldl_cons]
    refine ih _ _ (by simp [hl]) ?_
    intro i j
    have g1 : ∀ (x : List (List Nat)) (y : List Nat), (x ++ [y]).getD i [] = if i < x.length then x.getD i [] else if i = x.length then y else [] := by
     intro x y
     rw [List.getD_eq_getElem?_getD]
     split
     · rename_i h1; rw [List.getElem?_append_left h1, ← List.getD_eq_getElem?_getD]
     rename_i h1
     rw [List.getElem?_append_right (by omega)]
     split
     · rename_i h2; rw [h2]; simp
     rw [List.getElem?_eq_none (by simp; omega)]; rfl
    rw [g1, g1, ← hl]
    split
    · exact h i j
    split
    · simp only [List.mem_eraseDups, List.mem_flatMap, List.mem_cons]
      constructor
      · rintro ⟨e, he, hj⟩; exact ⟨e, he, hj.imp id (fun hj => (h _ _).1 hj)⟩
      rintro ⟨e, he, hj⟩; exact ⟨e, he, hj.imp id (fun hj => (h _ _).2 hj)⟩
    exact Iff.rfl
 exact key ops [] [] rfl (fun _ _ => Iff.rfl) i j
def rgCheckD (ops : Array Oper) (D : List (Option Nat)) (A : List (List Nat)) (mask : List Bool) (len : Nat) : Bool :=
 (D == ops.toList.map (·.dst)) &&
 (ops.toList.zipIdx.all fun (o, i) => o.after.all fun e => !Region.binds .any e || e.on < i) &&
 ((ops.toList.filterMap (·.dst)).all fun d => d < len && mask.getD d false) &&
 ((List.range ops.size).all fun i => (List.range i).all fun j => (D.getD i none).isNone || D.getD i none != D.getD j none) &&
 (let X := ancsD ops.toList; (List.range ops.size).all fun i => (A.getD i []).all fun j => (X.getD i []).contains j)
theorem rgCheck_of {ops : Array Oper} {D : List (Option Nat)} {A : List (List Nat)} {mask : List Bool} {len : Nat} (h : rgCheckD ops D A mask len = true) : rgCheck ops D A mask len = true := by
 unfold rgCheckD at h
 unfold rgCheck
 simp only [Bool.and_eq_true] at h ⊢
 refine ⟨h.1, ?_⟩
 rw [List.all_eq_true]
 intro i hi
 rw [List.all_eq_true]
 intro j hj
 have h1 := List.all_eq_true.1 (List.all_eq_true.1 h.2 i hi) j hj
 rw [List.contains_iff_mem] at h1 ⊢
 exact (ancsD_mem _ i j).1 h1
end Go.Proofs.YtjnhiiaejeaikaaGreatDoor
namespace Go.Proofs.YtjnhiiaejeaikaaGreatDoor
open Go.RowKit
def ptrHole (a b s m l : Int) : Bool := decide (a = 0 ∧ b = 0 ∧ s = 0 ∧ m = 0 ∧ l = 0)
def ptrOkB (a b s m l : Int) : Bool := ptrHole a b s m l || (inB a 8 63 && (inB b 1 900 && (inB s 1 128 && (inB m 0 99460728 && inB l 0 2))))
def ptrV (a b s m l : Int) : Value := .agg #[.int .i64 a, .int .i64 b, .int .i64 s, .int .i64 m, .int .i64 l]
def treeV (a b s m l d n : Int) : Value := .agg #[.int .i64 a, .int .i64 b, .int .i64 s, .int .i64 m, .int .i64 l, .int .i64 d, .int .i64 n]
set_option maxHeartbeats 400000 in
theorem ptrHole_any (a b s m l : Int) (w : World) :
 Calls Tryz.prog 69 #[ptrV a b s m l] w fun e w' => e = .returned (.bool (ptrHole a b s m l)) ∧ Below w.heap.size w w' := by
 unfold ptrV
 go_enter Tryz.func69, Tryz.ntmps69
 go_wp2_with fail
 all_goals (go_ret; exact ⟨ret_bool (by simp [ptrHole, *]), bel1⟩)
set_option maxHeartbeats 400000 in
theorem spPtrHole_any (a b s m l : Int) (w : World) :
 Calls Tryz.prog 57 #[ptrV a b s m l] w fun e w' => e = .returned (.bool (ptrHole a b s m l)) ∧ Below w.heap.size w w' := by
 unfold ptrV
 go_enter Tryz.func57, Tryz.ntmps57
 go_wp2_with fail
 all_goals (go_ret; exact ⟨ret_bool (by simp [ptrHole, *]), bel1⟩)
set_option maxHeartbeats 1000000 in
theorem ptrOk_any (a b s m l : Int) (w : World) :
 Calls Tryz.prog 68 #[ptrV a b s m l] w fun e w' => e = .returned (.bool (ptrOkB a b s m l)) ∧ Below w.heap.size w w' := by
 show Calls Tryz.prog 68 #[.agg #[.int .i64 a, .int .i64 b, .int .i64 s, .int .i64 m, .int .i64 l]] w _
 go_enter Tryz.func68, Tryz.ntmps68
 go_wp2_with fail
 refine (ptrHole_any a b s m l _).mono ?_
 rintro e w1 ⟨rfl, hb1⟩
 have HB := bel1.trans (hb1.mono (by simp))
 have c1_0 : w1.cell? ⟨w.heap.size, 0, none⟩ = some (.int .i64 a) := (hb1.cell (by simp)).trans (by simp [go_sem])
 have c1_1 : w1.cell? ⟨w.heap.size, 1, none⟩ = some (.int .i64 b) := (hb1.cell (by simp)).trans (by simp [go_sem])
 have c1_2 : w1.cell? ⟨w.heap.size, 2, none⟩ = some (.int .i64 s) := (hb1.cell (by simp)).trans (by simp [go_sem])
 have c1_3 : w1.cell? ⟨w.heap.size, 3, none⟩ = some (.int .i64 m) := (hb1.cell (by simp)).trans (by simp [go_sem])
 have c1_4 : w1.cell? ⟨w.heap.size, 4, none⟩ = some (.int .i64 l) := (hb1.cell (by simp)).trans (by simp [go_sem])
 clear hb1
 generalize hh : ptrHole a b s m l = h
 cases h
 all_goals go_wp2_with fail
 repeat' (first
  | (go_at_call 82; refine (isRow_any _ _).mono ?_; rintro e w' ⟨rfl, rfl⟩; generalize hb : inB _ _ _ = b; cases b <;> go_wp2_with fail)
  | (go_at_call 61; refine (within_any _ _ _ _).mono ?_; rintro e w' ⟨rfl, rfl⟩; generalize hb : inB _ _ _ = b; cases b <;> go_wp2_with fail))
 all_goals (go_ret; exact ⟨ret_bool (by simp [ptrOkB, *]), HB⟩)
set_option maxHeartbeats 1000000 in
theorem spPtrOk_any (a b s m l : Int) (w : World) :
 Calls Tryz.prog 56 #[ptrV a b s m l] w fun e w' => e = .returned (.bool (ptrOkB a b s m l)) ∧ Below w.heap.size w w' := by
 show Calls Tryz.prog 56 #[.agg #[.int .i64 a, .int .i64 b, .int .i64 s, .int .i64 m, .int .i64 l]] w _
 go_enter Tryz.func56, Tryz.ntmps56
 go_wp2_with fail
 refine (spPtrHole_any a b s m l _).mono ?_
 rintro e w1 ⟨rfl, hb1⟩
 have HB := bel1.trans (hb1.mono (by simp))
 have c1_0 : w1.cell? ⟨w.heap.size, 0, none⟩ = some (.int .i64 a) := (hb1.cell (by simp)).trans (by simp [go_sem])
 have c1_1 : w1.cell? ⟨w.heap.size, 1, none⟩ = some (.int .i64 b) := (hb1.cell (by simp)).trans (by simp [go_sem])
 have c1_2 : w1.cell? ⟨w.heap.size, 2, none⟩ = some (.int .i64 s) := (hb1.cell (by simp)).trans (by simp [go_sem])
 have c1_3 : w1.cell? ⟨w.heap.size, 3, none⟩ = some (.int .i64 m) := (hb1.cell (by simp)).trans (by simp [go_sem])
 have c1_4 : w1.cell? ⟨w.heap.size, 4, none⟩ = some (.int .i64 l) := (hb1.cell (by simp)).trans (by simp [go_sem])
 clear hb1
 generalize hh : ptrHole a b s m l = h
 cases h
 all_goals go_wp2_with fail
 repeat' (first
  | (go_at_call 73; refine (l2Row_any _ _).mono ?_; rintro e w' ⟨rfl, rfl⟩; generalize hb : inB _ _ _ = b; cases b <;> go_wp2_with fail)
  | (go_at_call 55; refine (l6In_any _ _ _ _).mono ?_; rintro e w' ⟨rfl, rfl⟩; generalize hb : inB _ _ _ = b; cases b <;> go_wp2_with fail))
 all_goals (go_ret; exact ⟨ret_bool (by simp [ptrOkB, *]), HB⟩)
end Go.Proofs.YtjnhiiaejeaikaaGreatDoor
namespace Go.Proofs.YtjnhiiaejeaikaaGreatDoor
open Go.RowKit
def rowOk (i : Nat) (r l : Int) : Prop := 0 ≤ r ∧ r ≤ 900 ∧ r ≤ l ∧ l ≤ 900 ∧ (r = 0 → l = 0) ∧ (0 < r → 8 ≤ i)
def SpOk (xs ys : List Int) : Prop := xs.length = 64 ∧ ys.length = 64 ∧ ∀ i, i < 64 → rowOk i (xs.getD i 0) (ys.getD i 0)
def rowB (i : Nat) (r l : Int) : Bool := decide (0 ≤ r) && decide (r ≤ 900) && decide (r ≤ l) && decide (l ≤ 900) && (decide (¬ r = 0) || decide (l = 0)) && (decide (¬ 0 < r) || decide (8 ≤ i))
theorem rowB_iff (i : Nat) (r l : Int) : rowB i r l = true ↔ rowOk i r l := by
 unfold rowB rowOk
 simp only [Bool.and_eq_true, Bool.or_eq_true, decide_eq_true_eq]
 omega
def spOk (xs ys : List Int) : Bool := decide (xs.length = 64) && decide (ys.length = 64) && (List.range 64).all fun i => rowB i (xs.getD i 0) (ys.getD i 0)
theorem spOk_iff {xs ys : List Int} : spOk xs ys = true ↔ SpOk xs ys := by
 unfold spOk SpOk
 simp only [Bool.and_eq_true, decide_eq_true_eq, List.all_eq_true, List.mem_range, rowB_iff, and_assoc]
theorem spOk_no {xs ys : List Int} (h : ¬ SpOk xs ys) : spOk xs ys = false := by
 cases e : spOk xs ys with
 | false => rfl
 | true => exact absurd (spOk_iff.1 e) h
set_option maxHeartbeats 1000000 in
theorem spaceOk_any (A B : Option Addr) (n c m d : Nat) (xs ys : List Int) (w : World) (hA : IntsAt w A n xs) (hB : IntsAt w B m ys) :
 Calls Tryz.prog 65 #[.agg #[.slice A n c, .slice B m d]] w fun e w' => e = .returned (.bool (spOk xs ys)) ∧ Below w.heap.size w w' := by
 have hn := hA.max
 have hm := hB.max
 by_cases h1 : n = 64
 · subst h1
   by_cases h2 : m = 64
   · subst h2
     go_enter Tryz.func65, Tryz.ntmps65
     go_wp2_with fail
     go_loopw [19] (fun i wr => ∃ k : Nat, k ≤ 64 ∧ i = .int .i64 k ∧ Hid (∀ j, j < k → rowOk j (xs.getD j 0) (ys.getD j 0)) ∧ SameW wr (w.alloc (.cells #[.slice A 64 c, .slice B 64 d] 36))) (fun i _ => 64 - (intOf i).toNat)
     case atStart => exact ⟨0, Nat.zero_le _, rfl, fun j hj => absurd hj (by omega), rfl⟩
     obtain ⟨k, hk, rfl, HP, HW⟩ := hrel
     obtain rfl := HW.out
     clear HW
     by_cases hlt : k < 64
     · obtain ⟨b, off, rfl, hb, hc⟩ := hA.at_ hlt
       obtain ⟨b', off', rfl, hb', hc'⟩ := hB.at_ hlt
       have h1 := hc k hlt
       have h2 := hc' k hlt
       clear hc hc'
       obtain ⟨r, hr⟩ : ∃ r, r = xs.getD k 0 := ⟨_, rfl⟩
       obtain ⟨l, hl⟩ : ∃ l, l = ys.getD k 0 := ⟨_, rfl⟩
       rw [← hr] at h1
       rw [← hl] at h2
       have hbad : (¬ (0 ≤ r ∧ r ≤ 900 ∧ r ≤ l ∧ l ≤ 900 ∧ (r = 0 → l = 0) ∧ (0 < r → 8 ≤ k))) → spOk xs ys = false := by
        intro hno
        refine spOk_no fun hs => hno ?_
        have := hs.2.2 k hlt
        rw [← hr, ← hl] at this
        exact this
       have hgood : (0 ≤ r ∧ r ≤ 900 ∧ r ≤ l ∧ l ≤ 900 ∧ (r = 0 → l = 0) ∧ (0 < r → 8 ≤ k)) → Hid (∀ j, j < k + 1 → rowOk j (xs.getD j 0) (ys.getD j 0)) := by
        intro hyes j hj
        rcases Nat.lt_or_ge j k with h | h
        · exact HP.out j h
        obtain rfl : j = k := by omega
        rw [← hr, ← hl]
        exact hyes
       clear hr hl HP
       have HG := Lib.hid hgood
       have HB := Lib.hid hbad
       clear hgood hbad
       by_cases q1 : 0 ≤ r ∧ r ≤ 900
       · have e1 := inB_yes q1
         obtain ⟨q1, q1'⟩ := q1
         by_cases q2 : r ≤ l ∧ l ≤ 900
         · have e2 := inB_yes q2
           obtain ⟨q2, q2'⟩ := q2
           by_cases q3 : r = 0
           · subst q3
             by_cases q4 : l = 0
             · subst q4
               have HR := HG.out (by omega); clear HG HB
               go_wp2_with (go_at_call 61; refine (within_any _ _ _ _).mono ?_; rintro e w' ⟨rfl, rfl⟩)
               go_roundw
               case rel => exact ⟨k + 1, by omega, by go_num, HR, SameW.refl _⟩
               simp [intOf]; omega
             have e3 : (l != 0) = true := by simpa using q4
             have hf := Lib.hid (HB.out (by omega)); clear HB HG
             go_wp2_with (go_at_call 61; refine (within_any _ _ _ _).mono ?_; rintro e w' ⟨rfl, rfl⟩)
             go_ret
             exact ⟨ret_bool hf.out.symm, (Below.refl _ _).alloc (Nat.le_refl _) _⟩
           have e3 : (r == 0) = false := by simpa using q3
           have e3' : 0 < r := by omega
           by_cases q5 : 8 ≤ k
           · have e4 : ¬ ((k : Int) < 8) := by omega
             have HR := HG.out (by omega); clear HG HB
             go_wp2_with (go_at_call 61; refine (within_any _ _ _ _).mono ?_; rintro e w' ⟨rfl, rfl⟩)
             go_roundw
             case rel => exact ⟨k + 1, by omega, by go_num, HR, SameW.refl _⟩
             simp [intOf]; omega
           have e4 : (k : Int) < 8 := by omega
           have hf := Lib.hid (HB.out (by omega)); clear HB HG
           go_wp2_with (go_at_call 61; refine (within_any _ _ _ _).mono ?_; rintro e w' ⟨rfl, rfl⟩)
           go_ret
           exact ⟨ret_bool hf.out.symm, (Below.refl _ _).alloc (Nat.le_refl _) _⟩
         have e2 := inB_no q2
         have hf := Lib.hid (HB.out (by omega)); clear HB HG
         go_wp2_with (go_at_call 61; refine (within_any _ _ _ _).mono ?_; rintro e w' ⟨rfl, rfl⟩)
         go_ret
         exact ⟨ret_bool hf.out.symm, (Below.refl _ _).alloc (Nat.le_refl _) _⟩
       have e1 := inB_no q1
       have hf := Lib.hid (HB.out (by omega)); clear HB HG
       go_wp2_with (go_at_call 61; refine (within_any _ _ _ _).mono ?_; rintro e w' ⟨rfl, rfl⟩)
       go_ret
       exact ⟨ret_bool hf.out.symm, (Below.refl _ _).alloc (Nat.le_refl _) _⟩
     have hf := Lib.hid (spOk_iff.2 ⟨hA.len, hB.len, fun j hj => HP.out j (by omega)⟩)
     go_wp2
     go_ret
     exact ⟨ret_bool hf.out.symm, (Below.refl _ _).alloc (Nat.le_refl _) _⟩
   have hf := Lib.hid (spOk_no (xs := xs) (ys := ys) fun hs => h2 (hB.len ▸ hs.2.1))
   have e2 : ((m : Int) != 64) = true := by simp; omega
   clear h2
   go_enter Tryz.func65, Tryz.ntmps65
   go_wp2
   go_ret
   exact ⟨ret_bool hf.out.symm, (Below.refl _ _).alloc (Nat.le_refl _) _⟩
 have hf := Lib.hid (spOk_no (xs := xs) (ys := ys) fun hs => h1 (hA.len ▸ hs.1))
 have e2 : ((n : Int) != 64) = true := by simp; omega
 clear h1
 go_enter Tryz.func65, Tryz.ntmps65
 go_wp2
 go_ret
 exact ⟨ret_bool hf.out.symm, (Below.refl _ _).alloc (Nat.le_refl _) _⟩
end Go.Proofs.YtjnhiiaejeaikaaGreatDoor
namespace Go.Proofs.YtjnhiiaejeaikaaGreatDoor
open Go.RowKit
set_option maxHeartbeats 1000000 in
theorem spSpaceOk_any (A B : Option Addr) (n c m d : Nat) (xs ys : List Int) (w : World) (hA : IntsAt w A n xs) (hB : IntsAt w B m ys) :
 Calls Tryz.prog 54 #[.agg #[.slice A n c, .slice B m d]] w fun e w' => e = .returned (.bool (spOk xs ys)) ∧ Below w.heap.size w w' := by
 have hn := hA.max
 have hm := hB.max
 by_cases h1 : n = 64
 · subst h1
   by_cases h2 : m = 64
   · subst h2
     go_enter Tryz.func54, Tryz.ntmps54
     go_wp2_with fail
     go_loopw [3] (fun i wr => ∃ k : Nat, k ≤ 64 ∧ i = .int .i64 k ∧ Hid (∀ j, j < k → rowOk j (xs.getD j 0) (ys.getD j 0)) ∧ Quiet (w.alloc (.cells #[.slice A 64 c, .slice B 64 d] 36)) wr) (fun i _ => 64 - (intOf i).toNat)
     case atStart => exact ⟨0, Nat.zero_le _, rfl, fun j hj => absurd hj (by omega), Quiet.refl _⟩
     obtain ⟨k, hk, rfl, HP, q, rfl⟩ := hrel
     by_cases hlt : k < 64
     · obtain ⟨b, off, rfl, hb, hc⟩ := hA.at_ hlt
       obtain ⟨b', off', rfl, hb', hc'⟩ := hB.at_ hlt
       have h1 := hc k hlt
       have h2 := hc' k hlt
       clear hc hc'
       obtain ⟨r, hr⟩ : ∃ r, r = xs.getD k 0 := ⟨_, rfl⟩
       obtain ⟨l, hl⟩ : ∃ l, l = ys.getD k 0 := ⟨_, rfl⟩
       rw [← hr] at h1
       rw [← hl] at h2
       have hbad : (¬ (0 ≤ r ∧ r ≤ 900 ∧ r ≤ l ∧ l ≤ 900 ∧ (r = 0 → l = 0) ∧ (0 < r → 8 ≤ k))) → spOk xs ys = false := by
        intro hno
        refine spOk_no fun hs => hno ?_
        have := hs.2.2 k hlt
        rw [← hr, ← hl] at this
        exact this
       have hgood : (0 ≤ r ∧ r ≤ 900 ∧ r ≤ l ∧ l ≤ 900 ∧ (r = 0 → l = 0) ∧ (0 < r → 8 ≤ k)) → Hid (∀ j, j < k + 1 → rowOk j (xs.getD j 0) (ys.getD j 0)) := by
        intro hyes j hj
        rcases Nat.lt_or_ge j k with h | h
        · exact HP.out j h
        obtain rfl : j = k := by omega
        rw [← hr, ← hl]
        exact hyes
       clear hr hl HP
       have HG := Lib.hid hgood
       have HB := Lib.hid hbad
       clear hgood hbad
       by_cases q1 : 0 ≤ l ∧ l ≤ 900
       · have e1 := inB_yes q1
         obtain ⟨q1, q1'⟩ := q1
         by_cases q2 : 0 ≤ r ∧ r ≤ l
         · have e2 := inB_yes q2
           obtain ⟨q2, q2'⟩ := q2
           by_cases q3 : r = 0
           · subst q3
             by_cases q4 : l = 0
             · subst q4
               by_cases q5 : 8 ≤ k
               · have e4 : inB (k : Int) 8 63 = true := inB_yes ⟨by omega, by omega⟩
                 have HR := HG.out (by omega); clear HG HB
                 go_wp2_with fail; go_quiet ((first | (go_at_call 55; exact quiet_add_left (l6In_any _ _ _ _)) | (go_at_call 73; exact quiet_add_left (l2Row_any _ _)))); go_wp2
                 go_roundw
                 case rel => exact ⟨k + 1, by omega, by go_num, HR, ⟨_, rfl⟩⟩
                 simp [intOf]; omega
               have e4 : inB (k : Int) 8 63 = false := inB_no (by omega)
               have HR := HG.out (by omega); clear HG HB
               go_wp2_with fail; go_quiet ((first | (go_at_call 55; exact quiet_add_left (l6In_any _ _ _ _)) | (go_at_call 73; exact quiet_add_left (l2Row_any _ _)))); go_wp2
               go_roundw
               case rel => exact ⟨k + 1, by omega, by go_num, HR, ⟨_, rfl⟩⟩
               simp [intOf]; omega
             have e3 : (l != 0) = true := by simpa using q4
             have hf := Lib.hid (HB.out (by omega)); clear HB HG
             go_wp2_with fail; go_quiet ((first | (go_at_call 55; exact quiet_add_left (l6In_any _ _ _ _)) | (go_at_call 73; exact quiet_add_left (l2Row_any _ _)))); go_wp2
             go_ret
             exact ⟨ret_bool hf.out.symm, by repeat (first | exact (Below.refl _ _).alloc (Nat.le_refl _) _ | apply below_drewN)⟩
           have e3 : (r == 0) = false := by simpa using q3
           have e3' : 0 < r := by omega
           by_cases q5 : 8 ≤ k
           · have e4 : inB (k : Int) 8 63 = true := inB_yes ⟨by omega, by omega⟩
             have HR := HG.out (by omega); clear HG HB
             go_wp2_with fail; go_quiet ((first | (go_at_call 55; exact quiet_add_left (l6In_any _ _ _ _)) | (go_at_call 73; exact quiet_add_left (l2Row_any _ _)))); go_wp2
             go_roundw
             case rel => exact ⟨k + 1, by omega, by go_num, HR, ⟨_, rfl⟩⟩
             simp [intOf]; omega
           have e4 : inB (k : Int) 8 63 = false := inB_no (by omega)
           have hf := Lib.hid (HB.out (by omega)); clear HB HG
           go_wp2_with fail; go_quiet ((first | (go_at_call 55; exact quiet_add_left (l6In_any _ _ _ _)) | (go_at_call 73; exact quiet_add_left (l2Row_any _ _)))); go_wp2
           go_ret
           exact ⟨ret_bool hf.out.symm, by repeat (first | exact (Below.refl _ _).alloc (Nat.le_refl _) _ | apply below_drewN)⟩
         have e2 := inB_no q2
         have hf := Lib.hid (HB.out (by omega)); clear HB HG
         go_wp2_with fail; go_quiet ((first | (go_at_call 55; exact quiet_add_left (l6In_any _ _ _ _)) | (go_at_call 73; exact quiet_add_left (l2Row_any _ _)))); go_wp2
         go_ret
         exact ⟨ret_bool hf.out.symm, by repeat (first | exact (Below.refl _ _).alloc (Nat.le_refl _) _ | apply below_drewN)⟩
       have e1 := inB_no q1
       have hf := Lib.hid (HB.out (by omega)); clear HB HG
       go_wp2_with fail; go_quiet ((first | (go_at_call 55; exact quiet_add_left (l6In_any _ _ _ _)) | (go_at_call 73; exact quiet_add_left (l2Row_any _ _)))); go_wp2
       go_ret
       exact ⟨ret_bool hf.out.symm, by repeat (first | exact (Below.refl _ _).alloc (Nat.le_refl _) _ | apply below_drewN)⟩
     have hf := Lib.hid (spOk_iff.2 ⟨hA.len, hB.len, fun j hj => HP.out j (by omega)⟩)
     go_wp2
     go_ret
     exact ⟨ret_bool hf.out.symm, by repeat (first | exact (Below.refl _ _).alloc (Nat.le_refl _) _ | apply below_drewN)⟩
   have hf := Lib.hid (spOk_no (xs := xs) (ys := ys) fun hs => h2 (hB.len ▸ hs.2.1))
   have e2 : ((m : Int) != 64) = true := by simp; omega
   clear h2
   go_enter Tryz.func54, Tryz.ntmps54
   go_wp2
   go_ret
   exact ⟨ret_bool hf.out.symm, by repeat (first | exact (Below.refl _ _).alloc (Nat.le_refl _) _ | apply below_drewN)⟩
 have hf := Lib.hid (spOk_no (xs := xs) (ys := ys) fun hs => h1 (hA.len ▸ hs.1))
 have e2 : ((n : Int) != 64) = true := by simp; omega
 clear h1
 go_enter Tryz.func54, Tryz.ntmps54
 go_wp2
 go_ret
 exact ⟨ret_bool hf.out.symm, by repeat (first | exact (Below.refl _ _).alloc (Nat.le_refl _) _ | apply below_drewN)⟩
end Go.Proofs.YtjnhiiaejeaikaaGreatDoor
namespace Go.Proofs.YtjnhiiaejeaikaaGreatDoor
open Go.RowKit
def Z64 : Array Value := madeCells #[.int .i64 0] 64
def z64 : List Int := List.replicate 64 0
theorem Z64_list : Z64.toList = z64.map (Value.int .i64) := by simp [Z64, z64, toList_madeCells_one]
theorem Z64_size : Z64.size = 64 := size_madeCells _ _
theorem Z64_max : Z64.size ≤ 140737488355328 := by rw [Z64_size]; omega
theorem makeZ (w : World) : (Instr.makeSlice 23 (.int .i64 64) (.int .i64 64)).run Tryz.prog w = .ok (.slice (some ⟨w.heap.size, 0, none⟩) 64 64) (w.alloc (.cells Z64 3)) := by kernel_rfl
end Go.Proofs.YtjnhiiaejeaikaaGreatDoor
namespace Go.Proofs.YtjnhiiaejeaikaaGreatDoor
open Go.RowKit
end Go.Proofs.YtjnhiiaejeaikaaGreatDoor
namespace Go.Proofs.YtjnhiiaejeaikaaGreatDoor
open Go.RowKit
end Go.Proofs.YtjnhiiaejeaikaaGreatDoor
namespace Go.Proofs.YtjnhiiaejeaikaaGreatDoor
open Go.RowKit
end Go.Proofs.YtjnhiiaejeaikaaGreatDoor
namespace Go.Proofs.YtjnhiiaejeaikaaGreatDoor
open Go.RowKit
def holeP (p : PtrD) : Bool := ptrHole p.1 p.2.1 p.2.2.1 p.2.2.2.1 p.2.2.2.2
def okP (p : PtrD) : Bool := ptrOkB p.1 p.2.1 p.2.2.1 p.2.2.2.1 p.2.2.2.2
def goodP (top : Int) (p : PtrD) : Bool := okP p && !holeP p && decide (p.2.1 ≤ top)
theorem goodP_parts {top : Int} {p : PtrD} (h : goodP top p = true) : okP p = true ∧ holeP p = false ∧ p.2.1 ≤ top ∧ 8 ≤ p.1 ∧ p.1 ≤ 63 := by
 unfold goodP at h
 simp only [Bool.and_eq_true, Bool.not_eq_true', decide_eq_true_eq] at h
 obtain ⟨⟨h1, h2⟩, h3⟩ := h
 refine ⟨h1, h2, h3, ?_⟩
 unfold okP ptrOkB at h1
 unfold holeP at h2
 rw [h2, Bool.false_or] at h1
 have := ((Bool.and_eq_true _ _).mp h1).1
 unfold inB at this
 simpa using this
def cntP (ps : List PtrD) (a : Nat) : Nat := ps.countP fun p => decide (p.1 = (a : Int))
theorem cntP_nil (a : Nat) : cntP [] a = 0 := rfl
theorem cntP_snoc (ps : List PtrD) (p : PtrD) (a : Nat) : cntP (ps ++ [p]) a = cntP ps a + if p.1 = (a : Int) then 1 else 0 := by
 unfold cntP
 rw [List.countP_append, List.countP_singleton]
 by_cases h : p.1 = (a : Int) <;> simp [h]
theorem cntP_append (ps qs : List PtrD) (a : Nat) : cntP (ps ++ qs) a = cntP ps a + cntP qs a := by unfold cntP; rw [List.countP_append]
theorem cntP_take {ps : List PtrD} {k : Nat} {p : PtrD} (h : ps[k]? = some p) (a : Nat) : cntP (ps.take (k + 1)) a = cntP (ps.take k) a + if p.1 = (a : Int) then 1 else 0 := by
 rw [List.take_add_one, h]
 exact cntP_snoc _ _ _
theorem cntP_le (ps : List PtrD) (k a : Nat) : cntP (ps.take k) a ≤ cntP ps a := by
 have h : cntP (ps.take k ++ ps.drop k) a = cntP ps a := by rw [List.take_append_drop]
 rw [cntP_append] at h
 omega
theorem cntP_len (ps : List PtrD) (a : Nat) : cntP ps a ≤ ps.length := by unfold cntP; exact List.countP_le_length
def rowT (n : Int) (s : ByteArray) : Prop := s.size ≤ 128 ∧ (s.size = 0 ↔ n = 0)
structure StoreOk (x : StoreD) : Prop where
 len : x.1.length = 64
 sp : spOk x.2.1.1 x.2.1.2 = true
 txg : inB x.2.2.1 1 900 = true
 keep : inB x.2.2.2.2.1 0 (x.2.2.1 - 1) = true
 last : ∀ i, i < 64 → x.2.1.2.getD i 0 ≤ x.2.2.1
 rows : ∀ i, i < 64 → rowT (x.2.1.1.getD i 0) (x.1.getD i ByteArray.empty)
 gone : ∀ p ∈ x.2.2.2.1, goodP (x.2.2.1 - 1) p = true
 dead : ∀ p ∈ x.2.2.2.2.2.1, goodP x.2.2.2.2.1 p = true
 owed : ∀ i, i < 64 → ((cntP x.2.2.2.1 i + cntP x.2.2.2.2.2.1 i : Nat) : Int) ≤ x.2.1.1.getD i 0
open Classical in
noncomputable def storeOk (x : StoreD) : Bool := decide (StoreOk x)
open Classical in
theorem storeOk_yes {x : StoreD} (h : StoreOk x) : storeOk x = true := by unfold storeOk; exact decide_eq_true h
open Classical in
theorem storeOk_no {x : StoreD} (h : ¬ StoreOk x) : storeOk x = false := by unfold storeOk; exact decide_eq_false h
open Classical in
theorem storeOk_of {x : StoreD} (h : storeOk x = true) : StoreOk x := by unfold storeOk at h; exact of_decide_eq_true h
theorem getD_set {l : List Int} {a i : Nat} {v : Int} (ha : a < l.length) : (l.set a v).getD i 0 = if a = i then v else l.getD i 0 := by
 simp only [List.getD, List.getElem?_set]
 by_cases h : a = i
 · subst h; rw [if_pos rfl, if_pos ha, if_pos rfl]; rfl
 rw [if_neg h, if_neg h]
end Go.Proofs.YtjnhiiaejeaikaaGreatDoor
