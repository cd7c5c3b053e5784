import Derived.Test.YtjnhiiaejeaikaaGreatDoorQTypes
import Derived.Lib.SliceRun
import Derived.Maps.AppendAt
import Derived.Deep.DeepMust
import Derived.Deep.RegionWith
import Derived.Test.YtjnhiiaejeaikaaGreatDoorQLib
import Derived.Test.YtjnhiiaejeaikaaGreatDoorRows
import Derived.ProofKit
import Derived.OpenShut
import Derived.Lib.SmallJoins
import Derived.ShutString
import Derived.ChangeOld
import Derived.Below
import Derived.Test.YtjnhiiaejeaikaaGreatDoorChecked
import Derived.RegionTactic
import Derived.BigRegion
set_option linter.unnecessarySimpa false
set_option linter.unusedSimpArgs false
set_option linter.unusedVariables false
namespace Go.Proofs.YtjnhiiaejeaikaaGreatDoor
open Go.RowKit
section
variable {w w' : World} {S : List Nat} {A B : Option Addr} {n c m d : Nat} {xs ys : List Int}
end
end Go.Proofs.YtjnhiiaejeaikaaGreatDoor
namespace Go.Proofs.YtjnhiiaejeaikaaGreatDoor
open Go.RowKit
end Go.Proofs.YtjnhiiaejeaikaaGreatDoor
namespace Go.Proofs.YtjnhiiaejeaikaaGreatDoor
open Go.RowKit
end Go.Proofs.YtjnhiiaejeaikaaGreatDoor
namespace Go.Proofs.YtjnhiiaejeaikaaGreatDoor
open Go.ChangeShapes Go.WideShapes Go.ChangeAt Go.RowKit
open Go.ChangeMaps (open_string shut_string)
theorem own_knob : ownKnob Tryz.prog.godebug = none := by kernel_rfl
theorem laid_out : laidOutB Tryz.prog = true := by kernel_rfl
end Go.Proofs.YtjnhiiaejeaikaaGreatDoor
namespace Go.Proofs.YtjnhiiaejeaikaaGreatDoor
section
open Go.RowKit
theorem str_ne0 {a : ByteArray} (h : ¬ a.size = 0) : ¬ a.toList = [] := fun e => h (by
 rw [ByteArray.toList_eq] at e
 have := congrArg List.length e
 simpa using this)
theorem str_isE {a : ByteArray} (h : ¬ a.size = 0) : a.toList.isEmpty = false := by
 have := str_ne0 h
 cases hl : a.toList with
 | nil => exact absurd hl this
 | cons _ _ => rfl
theorem str_nil {a : ByteArray} (h : a.size = 0) : a = ⟨#[]⟩ := by
 cases a with
 | mk d => have : d.size = 0 := h; rw [Array.eq_empty_of_size_eq_zero this]
theorem all_no {α : Type} {f : α → Bool} {xs : List α} {k : Nat} {x : α} (hx : xs[k]? = some x) (h : f x = false) : xs.all f = false := by
 rw [List.all_eq_false]; exact ⟨x, List.mem_of_getElem? hx, by simp [h]⟩
theorem all_upto {α : Type} {f : α → Bool} {xs : List α} {n : Nat} (hn : xs.length = n) (h : ∀ j x, j < n → xs[j]? = some x → f x = true) : xs.all f = true := by
 rw [List.all_eq_true]; intro x hx
 obtain ⟨j, hj, rfl⟩ := List.mem_iff_getElem.1 hx
 exact h j _ (by omega) (List.getElem?_eq_getElem hj)
theorem upto_step {α : Type} {f : α → Bool} {xs : List α} {k : Nat} {x : α} (hp : ∀ j y, j < k → xs[j]? = some y → f y = true) (hx : xs[k]? = some x) (h : f x = true) : ∀ j y, j < k + 1 → xs[j]? = some y → f y = true := by
 intro j y hj hy
 rcases Nat.lt_or_ge j k with h2 | h2
 · exact hp j y h2 hy
 · obtain rfl : j = k := by omega
   rw [hx] at hy; obtain rfl := Option.some.inj hy; exact h
end
section
open Go.RowKit
end
end Go.Proofs.YtjnhiiaejeaikaaGreatDoor
namespace Go.Proofs.YtjnhiiaejeaikaaGreatDoor
open Go.RowKit
def ancsD (ops : List Oper) : List (List Nat) :=
 ops.foldl (fun acc o => acc ++ [((o.after.toList.filter (Region.binds .any)).flatMap fun e => e.on :: acc.getD e.on []).eraseDups]) []
theorem ancsD_mem (ops : List Oper) (i j : Nat) : j ∈ (ancsD ops).getD i [] ↔ j ∈ (ancsOf ops).getD i [] := by
 have key : ∀ (rest : List Oper) (a b : List (List Nat)), a.length = b.length → (∀ i j, j ∈ a.getD i [] ↔ j ∈ b.getD i []) →
  ∀ i j, j ∈ (rest.foldl (fun acc o => acc ++ [((o.after.toList.filter (Region.binds .any)).flatMap fun e => e.on :: acc.getD e.on []).eraseDups]) a).getD i [] ↔
   j ∈ (rest.foldl (fun acc o => acc ++ [(o.after.toList.filter (Region.binds .any)).flatMap fun e => e.on :: acc.getD e.on []]) b).getD i [] := by
  intro rest
  induction rest with
  | nil => intro a b _ h; exact h
  | cons o rest ih =>
    intro a b hl h
    simp only [List.foldl_cons]
    refine ih _ _ (by simp [hl]) ?_
    intro i j
    have g1 : ∀ (x : List (List Nat)) (y : List Nat), (x ++ [y]).getD i [] = if i < x.length then x.getD i [] else if i = x.length then y else [] := by
     intro x y
     rw [List.getD_eq_getElem?_getD]
     split
     · rename_i h1; rw [List.getElem?_append_left h1, ← List.getD_eq_getElem?_getD]
     · rename_i h1
       rw [List.getElem?_append_right (by omega)]
       split
       · rename_i h2; rw [h2]; simp
       · rw [List.getElem?_eq_none (by simp; omega)]; rfl
    rw [g1, g1, ← hl]
    split
    · exact h i j
    · split
      · simp only [List.mem_eraseDups, List.mem_flatMap, List.mem_cons]
        constructor
        · rintro ⟨e, he, hj⟩; exact ⟨e, he, hj.imp id (fun hj => (h _ _).1 hj)⟩
        · rintro ⟨e, he, hj⟩; exact ⟨e, he, hj.imp id (fun hj => (h _ _).2 hj)⟩
      · exact Iff.rfl
 exact key ops [] [] rfl (fun _ _ => Iff.rfl) i j
def rgCheckD (ops : Array Oper) (D : List (Option Nat)) (A : List (List Nat)) (mask : List Bool) (len : Nat) : Bool :=
 (D == ops.toList.map (·.dst)) &&
 (ops.toList.zipIdx.all fun (o, i) => o.after.all fun e => !Region.binds .any e || e.on < i) &&
 ((ops.toList.filterMap (·.dst)).all fun d => d < len && mask.getD d false) &&
 ((List.range ops.size).all fun i => (List.range i).all fun j => (D.getD i none).isNone || D.getD i none != D.getD j none) &&
 (let X := ancsD ops.toList; (List.range ops.size).all fun i => (A.getD i []).all fun j => (X.getD i []).contains j)
theorem rgCheck_of {ops : Array Oper} {D : List (Option Nat)} {A : List (List Nat)} {mask : List Bool} {len : Nat} (h : rgCheckD ops D A mask len = true) : rgCheck ops D A mask len = true := by
 unfold rgCheckD at h
 unfold rgCheck
 simp only [Bool.and_eq_true] at h ⊢
 refine ⟨h.1, ?_⟩
 rw [List.all_eq_true]
 intro i hi
 rw [List.all_eq_true]
 intro j hj
 have h1 := List.all_eq_true.1 (List.all_eq_true.1 h.2 i hi) j hj
 rw [List.contains_iff_mem] at h1 ⊢
 exact (ancsD_mem _ i j).1 h1
end Go.Proofs.YtjnhiiaejeaikaaGreatDoor
namespace Go.Proofs.YtjnhiiaejeaikaaGreatDoor
open Go.RowKit
def ptrHole (a b s m l : Int) : Bool := decide (a = 0 ∧ b = 0 ∧ s = 0 ∧ m = 0 ∧ l = 0)
def ptrOkB (a b s m l : Int) : Bool := ptrHole a b s m l || (inB a 8 63 && (inB b 1 900 && (inB s 1 128 && (inB m 0 99460728 && inB l 0 2))))
def ptrV (a b s m l : Int) : Value := .agg #[.int .i64 a, .int .i64 b, .int .i64 s, .int .i64 m, .int .i64 l]
def treeV (a b s m l d n : Int) : Value := .agg #[.int .i64 a, .int .i64 b, .int .i64 s, .int .i64 m, .int .i64 l, .int .i64 d, .int .i64 n]
set_option maxHeartbeats 400000 in
theorem ptrHole_any (a b s m l : Int) (w : World) :
 Calls Tryz.prog 69 #[ptrV a b s m l] w fun e w' => e = .returned (.bool (ptrHole a b s m l)) ∧ Below w.heap.size w w' := by
 unfold ptrV
 go_enter Tryz.func69, Tryz.ntmps69
 go_wp2_with fail
 all_goals (go_ret; exact ⟨ret_bool (by simp [ptrHole, *]), bel1⟩)
set_option maxHeartbeats 400000 in
theorem spPtrHole_any (a b s m l : Int) (w : World) :
 Calls Tryz.prog 57 #[ptrV a b s m l] w fun e w' => e = .returned (.bool (ptrHole a b s m l)) ∧ Below w.heap.size w w' := by
 unfold ptrV
 go_enter Tryz.func57, Tryz.ntmps57
 go_wp2_with fail
 all_goals (go_ret; exact ⟨ret_bool (by simp [ptrHole, *]), bel1⟩)
set_option maxHeartbeats 1000000 in
theorem ptrOk_any (a b s m l : Int) (w : World) :
 Calls Tryz.prog 68 #[ptrV a b s m l] w fun e w' => e = .returned (.bool (ptrOkB a b s m l)) ∧ Below w.heap.size w w' := by
 show Calls Tryz.prog 68 #[.agg #[.int .i64 a, .int .i64 b, .int .i64 s, .int .i64 m, .int .i64 l]] w _
 go_enter Tryz.func68, Tryz.ntmps68
 go_wp2_with fail
 refine (ptrHole_any a b s m l _).mono ?_
 rintro e w1 ⟨rfl, hb1⟩
 have HB := bel1.trans (hb1.mono (by simp))
 have c1_0 : w1.cell? ⟨w.heap.size, 0, none⟩ = some (.int .i64 a) := (hb1.cell (by simp)).trans (by simp [go_sem])
 have c1_1 : w1.cell? ⟨w.heap.size, 1, none⟩ = some (.int .i64 b) := (hb1.cell (by simp)).trans (by simp [go_sem])
 have c1_2 : w1.cell? ⟨w.heap.size, 2, none⟩ = some (.int .i64 s) := (hb1.cell (by simp)).trans (by simp [go_sem])
 have c1_3 : w1.cell? ⟨w.heap.size, 3, none⟩ = some (.int .i64 m) := (hb1.cell (by simp)).trans (by simp [go_sem])
 have c1_4 : w1.cell? ⟨w.heap.size, 4, none⟩ = some (.int .i64 l) := (hb1.cell (by simp)).trans (by simp [go_sem])
 clear hb1
 generalize hh : ptrHole a b s m l = h
 cases h
 all_goals go_wp2_with fail
 repeat' (first
  | (go_at_call 82; refine (isRow_any _ _).mono ?_; rintro e w' ⟨rfl, rfl⟩; generalize hb : inB _ _ _ = b; cases b <;> go_wp2_with fail)
  | (go_at_call 61; refine (within_any _ _ _ _).mono ?_; rintro e w' ⟨rfl, rfl⟩; generalize hb : inB _ _ _ = b; cases b <;> go_wp2_with fail))
 all_goals (go_ret; exact ⟨ret_bool (by simp [ptrOkB, *]), HB⟩)
set_option maxHeartbeats 1000000 in
theorem spPtrOk_any (a b s m l : Int) (w : World) :
 Calls Tryz.prog 56 #[ptrV a b s m l] w fun e w' => e = .returned (.bool (ptrOkB a b s m l)) ∧ Below w.heap.size w w' := by
 show Calls Tryz.prog 56 #[.agg #[.int .i64 a, .int .i64 b, .int .i64 s, .int .i64 m, .int .i64 l]] w _
 go_enter Tryz.func56, Tryz.ntmps56
 go_wp2_with fail
 refine (spPtrHole_any a b s m l _).mono ?_
 rintro e w1 ⟨rfl, hb1⟩
 have HB := bel1.trans (hb1.mono (by simp))
 have c1_0 : w1.cell? ⟨w.heap.size, 0, none⟩ = some (.int .i64 a) := (hb1.cell (by simp)).trans (by simp [go_sem])
 have c1_1 : w1.cell? ⟨w.heap.size, 1, none⟩ = some (.int .i64 b) := (hb1.cell (by simp)).trans (by simp [go_sem])
 have c1_2 : w1.cell? ⟨w.heap.size, 2, none⟩ = some (.int .i64 s) := (hb1.cell (by simp)).trans (by simp [go_sem])
 have c1_3 : w1.cell? ⟨w.heap.size, 3, none⟩ = some (.int .i64 m) := (hb1.cell (by simp)).trans (by simp [go_sem])
 have c1_4 : w1.cell? ⟨w.heap.size, 4, none⟩ = some (.int .i64 l) := (hb1.cell (by simp)).trans (by simp [go_sem])
 clear hb1
 generalize hh : ptrHole a b s m l = h
 cases h
 all_goals go_wp2_with fail
 repeat' (first
  | (go_at_call 73; refine (l2Row_any _ _).mono ?_; rintro e w' ⟨rfl, rfl⟩; generalize hb : inB _ _ _ = b; cases b <;> go_wp2_with fail)
  | (go_at_call 55; refine (l6In_any _ _ _ _).mono ?_; rintro e w' ⟨rfl, rfl⟩; generalize hb : inB _ _ _ = b; cases b <;> go_wp2_with fail))
 all_goals (go_ret; exact ⟨ret_bool (by simp [ptrOkB, *]), HB⟩)
end Go.Proofs.YtjnhiiaejeaikaaGreatDoor
namespace Go.Proofs.YtjnhiiaejeaikaaGreatDoor
open Go.RowKit
def rowOk (i : Nat) (r l : Int) : Prop := 0 ≤ r ∧ r ≤ 900 ∧ r ≤ l ∧ l ≤ 900 ∧ (r = 0 → l = 0) ∧ (0 < r → 8 ≤ i)
def SpOk (xs ys : List Int) : Prop := xs.length = 64 ∧ ys.length = 64 ∧ ∀ i, i < 64 → rowOk i (xs.getD i 0) (ys.getD i 0)
def rowB (i : Nat) (r l : Int) : Bool := decide (0 ≤ r) && decide (r ≤ 900) && decide (r ≤ l) && decide (l ≤ 900) && (decide (¬ r = 0) || decide (l = 0)) && (decide (¬ 0 < r) || decide (8 ≤ i))
theorem rowB_iff (i : Nat) (r l : Int) : rowB i r l = true ↔ rowOk i r l := by
 unfold rowB rowOk
 simp only [Bool.and_eq_true, Bool.or_eq_true, decide_eq_true_eq]
 omega
def spOk (xs ys : List Int) : Bool := decide (xs.length = 64) && decide (ys.length = 64) && (List.range 64).all fun i => rowB i (xs.getD i 0) (ys.getD i 0)
theorem spOk_iff {xs ys : List Int} : spOk xs ys = true ↔ SpOk xs ys := by
 unfold spOk SpOk
 simp only [Bool.and_eq_true, decide_eq_true_eq, List.all_eq_true, List.mem_range, rowB_iff, and_assoc]
theorem spOk_no {xs ys : List Int} (h : ¬ SpOk xs ys) : spOk xs ys = false := by
 cases e : spOk xs ys with
 | false => rfl
 | true => exact absurd (spOk_iff.1 e) h
set_option maxHeartbeats 1000000 in
theorem spaceOk_any (A B : Option Addr) (n c m d : Nat) (xs ys : List Int) (w : World) (hA : IntsAt w A n xs) (hB : IntsAt w B m ys) :
 Calls Tryz.prog 65 #[.agg #[.slice A n c, .slice B m d]] w fun e w' => e = .returned (.bool (spOk xs ys)) ∧ Below w.heap.size w w' := by
 have hn := hA.max
 have hm := hB.max
 by_cases h1 : n = 64
 · subst h1
   by_cases h2 : m = 64
   · subst h2
     go_enter Tryz.func65, Tryz.ntmps65
     go_wp2_with fail
     go_loopw [19] (fun i wr => ∃ k : Nat, k ≤ 64 ∧ i = .int .i64 k ∧ Hid (∀ j, j < k → rowOk j (xs.getD j 0) (ys.getD j 0)) ∧ SameW wr (w.alloc (.cells #[.slice A 64 c, .slice B 64 d] 36))) (fun i _ => 64 - (intOf i).toNat)
     case atStart => exact ⟨0, Nat.zero_le _, rfl, fun j hj => absurd hj (by omega), rfl⟩
     case round =>
      obtain ⟨k, hk, rfl, HP, HW⟩ := hrel
      obtain rfl := HW.out
      clear HW
      by_cases hlt : k < 64
      · obtain ⟨b, off, rfl, hb, hc⟩ := hA.at_ hlt
        obtain ⟨b', off', rfl, hb', hc'⟩ := hB.at_ hlt
        have h1 := hc k hlt
        have h2 := hc' k hlt
        clear hc hc'
        obtain ⟨r, hr⟩ : ∃ r, r = xs.getD k 0 := ⟨_, rfl⟩
        obtain ⟨l, hl⟩ : ∃ l, l = ys.getD k 0 := ⟨_, rfl⟩
        rw [← hr] at h1
        rw [← hl] at h2
        have hbad : (¬ (0 ≤ r ∧ r ≤ 900 ∧ r ≤ l ∧ l ≤ 900 ∧ (r = 0 → l = 0) ∧ (0 < r → 8 ≤ k))) → spOk xs ys = false := by
         intro hno
         refine spOk_no fun hs => hno ?_
         have := hs.2.2 k hlt
         rw [← hr, ← hl] at this
         exact this
        have hgood : (0 ≤ r ∧ r ≤ 900 ∧ r ≤ l ∧ l ≤ 900 ∧ (r = 0 → l = 0) ∧ (0 < r → 8 ≤ k)) → Hid (∀ j, j < k + 1 → rowOk j (xs.getD j 0) (ys.getD j 0)) := by
         intro hyes j hj
         rcases Nat.lt_or_ge j k with h | h
         · exact HP.out j h
         · obtain rfl : j = k := by omega
           rw [← hr, ← hl]
           exact hyes
        clear hr hl HP
        have HG := Lib.hid hgood
        have HB := Lib.hid hbad
        clear hgood hbad
        by_cases q1 : 0 ≤ r ∧ r ≤ 900
        · have e1 := inB_yes q1
          obtain ⟨q1, q1'⟩ := q1
          by_cases q2 : r ≤ l ∧ l ≤ 900
          · have e2 := inB_yes q2
            obtain ⟨q2, q2'⟩ := q2
            by_cases q3 : r = 0
            · subst q3
              by_cases q4 : l = 0
              · subst q4
                have HR := HG.out (by omega); clear HG HB
                go_wp2_with (go_at_call 61; refine (within_any _ _ _ _).mono ?_; rintro e w' ⟨rfl, rfl⟩)
                go_roundw
                case rel => exact ⟨k + 1, by omega, by go_num, HR, SameW.refl _⟩
                case measure => simp [intOf]; omega
              · have e3 : (l != 0) = true := by simpa using q4
                have hf := Lib.hid (HB.out (by omega)); clear HB HG
                go_wp2_with (go_at_call 61; refine (within_any _ _ _ _).mono ?_; rintro e w' ⟨rfl, rfl⟩)
                go_ret
                exact ⟨ret_bool hf.out.symm, (Below.refl _ _).alloc (Nat.le_refl _) _⟩
            · have e3 : (r == 0) = false := by simpa using q3
              have e3' : 0 < r := by omega
              by_cases q5 : 8 ≤ k
              · have e4 : ¬ ((k : Int) < 8) := by omega
                have HR := HG.out (by omega); clear HG HB
                go_wp2_with (go_at_call 61; refine (within_any _ _ _ _).mono ?_; rintro e w' ⟨rfl, rfl⟩)
                go_roundw
                case rel => exact ⟨k + 1, by omega, by go_num, HR, SameW.refl _⟩
                case measure => simp [intOf]; omega
              · have e4 : (k : Int) < 8 := by omega
                have hf := Lib.hid (HB.out (by omega)); clear HB HG
                go_wp2_with (go_at_call 61; refine (within_any _ _ _ _).mono ?_; rintro e w' ⟨rfl, rfl⟩)
                go_ret
                exact ⟨ret_bool hf.out.symm, (Below.refl _ _).alloc (Nat.le_refl _) _⟩
          · have e2 := inB_no q2
            have hf := Lib.hid (HB.out (by omega)); clear HB HG
            go_wp2_with (go_at_call 61; refine (within_any _ _ _ _).mono ?_; rintro e w' ⟨rfl, rfl⟩)
            go_ret
            exact ⟨ret_bool hf.out.symm, (Below.refl _ _).alloc (Nat.le_refl _) _⟩
        · have e1 := inB_no q1
          have hf := Lib.hid (HB.out (by omega)); clear HB HG
          go_wp2_with (go_at_call 61; refine (within_any _ _ _ _).mono ?_; rintro e w' ⟨rfl, rfl⟩)
          go_ret
          exact ⟨ret_bool hf.out.symm, (Below.refl _ _).alloc (Nat.le_refl _) _⟩
      · have hf := Lib.hid (spOk_iff.2 ⟨hA.len, hB.len, fun j hj => HP.out j (by omega)⟩)
        go_wp2
        go_ret
        exact ⟨ret_bool hf.out.symm, (Below.refl _ _).alloc (Nat.le_refl _) _⟩
   · have hf := Lib.hid (spOk_no (xs := xs) (ys := ys) fun hs => h2 (hB.len ▸ hs.2.1))
     have e2 : ((m : Int) != 64) = true := by simp; omega
     clear h2
     go_enter Tryz.func65, Tryz.ntmps65
     go_wp2
     go_ret
     exact ⟨ret_bool hf.out.symm, (Below.refl _ _).alloc (Nat.le_refl _) _⟩
 · have hf := Lib.hid (spOk_no (xs := xs) (ys := ys) fun hs => h1 (hA.len ▸ hs.1))
   have e2 : ((n : Int) != 64) = true := by simp; omega
   clear h1
   go_enter Tryz.func65, Tryz.ntmps65
   go_wp2
   go_ret
   exact ⟨ret_bool hf.out.symm, (Below.refl _ _).alloc (Nat.le_refl _) _⟩
end Go.Proofs.YtjnhiiaejeaikaaGreatDoor
namespace Go.Proofs.YtjnhiiaejeaikaaGreatDoor
open Go.RowKit
set_option maxHeartbeats 1000000 in
theorem spSpaceOk_any (A B : Option Addr) (n c m d : Nat) (xs ys : List Int) (w : World) (hA : IntsAt w A n xs) (hB : IntsAt w B m ys) :
 Calls Tryz.prog 54 #[.agg #[.slice A n c, .slice B m d]] w fun e w' => e = .returned (.bool (spOk xs ys)) ∧ Below w.heap.size w w' := by
 have hn := hA.max
 have hm := hB.max
 by_cases h1 : n = 64
 · subst h1
   by_cases h2 : m = 64
   · subst h2
     go_enter Tryz.func54, Tryz.ntmps54
     go_wp2_with fail
     go_loopw [3] (fun i wr => ∃ k : Nat, k ≤ 64 ∧ i = .int .i64 k ∧ Hid (∀ j, j < k → rowOk j (xs.getD j 0) (ys.getD j 0)) ∧ Quiet (w.alloc (.cells #[.slice A 64 c, .slice B 64 d] 36)) wr) (fun i _ => 64 - (intOf i).toNat)
     case atStart => exact ⟨0, Nat.zero_le _, rfl, fun j hj => absurd hj (by omega), Quiet.refl _⟩
     case round =>
      obtain ⟨k, hk, rfl, HP, q, rfl⟩ := hrel
      by_cases hlt : k < 64
      · obtain ⟨b, off, rfl, hb, hc⟩ := hA.at_ hlt
        obtain ⟨b', off', rfl, hb', hc'⟩ := hB.at_ hlt
        have h1 := hc k hlt
        have h2 := hc' k hlt
        clear hc hc'
        obtain ⟨r, hr⟩ : ∃ r, r = xs.getD k 0 := ⟨_, rfl⟩
        obtain ⟨l, hl⟩ : ∃ l, l = ys.getD k 0 := ⟨_, rfl⟩
        rw [← hr] at h1
        rw [← hl] at h2
        have hbad : (¬ (0 ≤ r ∧ r ≤ 900 ∧ r ≤ l ∧ l ≤ 900 ∧ (r = 0 → l = 0) ∧ (0 < r → 8 ≤ k))) → spOk xs ys = false := by
         intro hno
         refine spOk_no fun hs => hno ?_
         have := hs.2.2 k hlt
         rw [← hr, ← hl] at this
         exact this
        have hgood : (0 ≤ r ∧ r ≤ 900 ∧ r ≤ l ∧ l ≤ 900 ∧ (r = 0 → l = 0) ∧ (0 < r → 8 ≤ k)) → Hid (∀ j, j < k + 1 → rowOk j (xs.getD j 0) (ys.getD j 0)) := by
         intro hyes j hj
         rcases Nat.lt_or_ge j k with h | h
         · exact HP.out j h
         · obtain rfl : j = k := by omega
           rw [← hr, ← hl]
           exact hyes
        clear hr hl HP
        have HG := Lib.hid hgood
        have HB := Lib.hid hbad
        clear hgood hbad
        by_cases q1 : 0 ≤ l ∧ l ≤ 900
        · have e1 := inB_yes q1
          obtain ⟨q1, q1'⟩ := q1
          by_cases q2 : 0 ≤ r ∧ r ≤ l
          · have e2 := inB_yes q2
            obtain ⟨q2, q2'⟩ := q2
            by_cases q3 : r = 0
            · subst q3
              by_cases q4 : l = 0
              · subst q4
                by_cases q5 : 8 ≤ k
                · have e4 : inB (k : Int) 8 63 = true := inB_yes ⟨by omega, by omega⟩
                  have HR := HG.out (by omega); clear HG HB
                  go_wp2_with fail; go_quiet ((first | (go_at_call 55; exact quiet_add_left (l6In_any _ _ _ _)) | (go_at_call 73; exact quiet_add_left (l2Row_any _ _)))); go_wp2
                  go_roundw
                  case rel => exact ⟨k + 1, by omega, by go_num, HR, ⟨_, rfl⟩⟩
                  case measure => simp [intOf]; omega
                · have e4 : inB (k : Int) 8 63 = false := inB_no (by omega)
                  have HR := HG.out (by omega); clear HG HB
                  go_wp2_with fail; go_quiet ((first | (go_at_call 55; exact quiet_add_left (l6In_any _ _ _ _)) | (go_at_call 73; exact quiet_add_left (l2Row_any _ _)))); go_wp2
                  go_roundw
                  case rel => exact ⟨k + 1, by omega, by go_num, HR, ⟨_, rfl⟩⟩
                  case measure => simp [intOf]; omega
              · have e3 : (l != 0) = true := by simpa using q4
                have hf := Lib.hid (HB.out (by omega)); clear HB HG
                go_wp2_with fail; go_quiet ((first | (go_at_call 55; exact quiet_add_left (l6In_any _ _ _ _)) | (go_at_call 73; exact quiet_add_left (l2Row_any _ _)))); go_wp2
                go_ret
                exact ⟨ret_bool hf.out.symm, by repeat (first | exact (Below.refl _ _).alloc (Nat.le_refl _) _ | apply below_drewN)⟩
            · have e3 : (r == 0) = false := by simpa using q3
              have e3' : 0 < r := by omega
              by_cases q5 : 8 ≤ k
              · have e4 : inB (k : Int) 8 63 = true := inB_yes ⟨by omega, by omega⟩
                have HR := HG.out (by omega); clear HG HB
                go_wp2_with fail; go_quiet ((first | (go_at_call 55; exact quiet_add_left (l6In_any _ _ _ _)) | (go_at_call 73; exact quiet_add_left (l2Row_any _ _)))); go_wp2
                go_roundw
                case rel => exact ⟨k + 1, by omega, by go_num, HR, ⟨_, rfl⟩⟩
                case measure => simp [intOf]; omega
              · have e4 : inB (k : Int) 8 63 = false := inB_no (by omega)
                have hf := Lib.hid (HB.out (by omega)); clear HB HG
                go_wp2_with fail; go_quiet ((first | (go_at_call 55; exact quiet_add_left (l6In_any _ _ _ _)) | (go_at_call 73; exact quiet_add_left (l2Row_any _ _)))); go_wp2
                go_ret
                exact ⟨ret_bool hf.out.symm, by repeat (first | exact (Below.refl _ _).alloc (Nat.le_refl _) _ | apply below_drewN)⟩
          · have e2 := inB_no q2
            have hf := Lib.hid (HB.out (by omega)); clear HB HG
            go_wp2_with fail; go_quiet ((first | (go_at_call 55; exact quiet_add_left (l6In_any _ _ _ _)) | (go_at_call 73; exact quiet_add_left (l2Row_any _ _)))); go_wp2
            go_ret
            exact ⟨ret_bool hf.out.symm, by repeat (first | exact (Below.refl _ _).alloc (Nat.le_refl _) _ | apply below_drewN)⟩
        · have e1 := inB_no q1
          have hf := Lib.hid (HB.out (by omega)); clear HB HG
          go_wp2_with fail; go_quiet ((first | (go_at_call 55; exact quiet_add_left (l6In_any _ _ _ _)) | (go_at_call 73; exact quiet_add_left (l2Row_any _ _)))); go_wp2
          go_ret
          exact ⟨ret_bool hf.out.symm, by repeat (first | exact (Below.refl _ _).alloc (Nat.le_refl _) _ | apply below_drewN)⟩
      · have hf := Lib.hid (spOk_iff.2 ⟨hA.len, hB.len, fun j hj => HP.out j (by omega)⟩)
        go_wp2
        go_ret
        exact ⟨ret_bool hf.out.symm, by repeat (first | exact (Below.refl _ _).alloc (Nat.le_refl _) _ | apply below_drewN)⟩
   · have hf := Lib.hid (spOk_no (xs := xs) (ys := ys) fun hs => h2 (hB.len ▸ hs.2.1))
     have e2 : ((m : Int) != 64) = true := by simp; omega
     clear h2
     go_enter Tryz.func54, Tryz.ntmps54
     go_wp2
     go_ret
     exact ⟨ret_bool hf.out.symm, by repeat (first | exact (Below.refl _ _).alloc (Nat.le_refl _) _ | apply below_drewN)⟩
 · have hf := Lib.hid (spOk_no (xs := xs) (ys := ys) fun hs => h1 (hA.len ▸ hs.1))
   have e2 : ((n : Int) != 64) = true := by simp; omega
   clear h1
   go_enter Tryz.func54, Tryz.ntmps54
   go_wp2
   go_ret
   exact ⟨ret_bool hf.out.symm, by repeat (first | exact (Below.refl _ _).alloc (Nat.le_refl _) _ | apply below_drewN)⟩
end Go.Proofs.YtjnhiiaejeaikaaGreatDoor
namespace Go.Proofs.YtjnhiiaejeaikaaGreatDoor
open Go.RowKit
def Z64 : Array Value := madeCells #[.int .i64 0] 64
def z64 : List Int := List.replicate 64 0
theorem Z64_list : Z64.toList = z64.map (Value.int .i64) := by simp [Z64, z64, toList_madeCells_one]
theorem Z64_size : Z64.size = 64 := size_madeCells _ _
theorem Z64_max : Z64.size ≤ 140737488355328 := by rw [Z64_size]; omega
theorem makeZ (w : World) : (Instr.makeSlice 23 (.int .i64 64) (.int .i64 64)).run Tryz.prog w = .ok (.slice (some ⟨w.heap.size, 0, none⟩) 64 64) (w.alloc (.cells Z64 3)) := by kernel_rfl
end Go.Proofs.YtjnhiiaejeaikaaGreatDoor
namespace Go.Proofs.YtjnhiiaejeaikaaGreatDoor
open Go.RowKit
end Go.Proofs.YtjnhiiaejeaikaaGreatDoor
namespace Go.Proofs.YtjnhiiaejeaikaaGreatDoor
open Go.RowKit
end Go.Proofs.YtjnhiiaejeaikaaGreatDoor
namespace Go.Proofs.YtjnhiiaejeaikaaGreatDoor
open Go.RowKit
end Go.Proofs.YtjnhiiaejeaikaaGreatDoor
namespace Go.Proofs.YtjnhiiaejeaikaaGreatDoor
open Go.RowKit
def holeP (p : PtrD) : Bool := ptrHole p.1 p.2.1 p.2.2.1 p.2.2.2.1 p.2.2.2.2
def okP (p : PtrD) : Bool := ptrOkB p.1 p.2.1 p.2.2.1 p.2.2.2.1 p.2.2.2.2
def goodP (top : Int) (p : PtrD) : Bool := okP p && !holeP p && decide (p.2.1 ≤ top)
theorem goodP_parts {top : Int} {p : PtrD} (h : goodP top p = true) : okP p = true ∧ holeP p = false ∧ p.2.1 ≤ top ∧ 8 ≤ p.1 ∧ p.1 ≤ 63 := by
 unfold goodP at h
 simp only [Bool.and_eq_true, Bool.not_eq_true', decide_eq_true_eq] at h
 obtain ⟨⟨h1, h2⟩, h3⟩ := h
 refine ⟨h1, h2, h3, ?_⟩
 unfold okP ptrOkB at h1
 unfold holeP at h2
 rw [h2, Bool.false_or] at h1
 have := ((Bool.and_eq_true _ _).mp h1).1
 unfold inB at this
 simpa using this
def cntP (ps : List PtrD) (a : Nat) : Nat := ps.countP fun p => decide (p.1 = (a : Int))
theorem cntP_nil (a : Nat) : cntP [] a = 0 := rfl
theorem cntP_snoc (ps : List PtrD) (p : PtrD) (a : Nat) : cntP (ps ++ [p]) a = cntP ps a + if p.1 = (a : Int) then 1 else 0 := by
 unfold cntP
 rw [List.countP_append, List.countP_singleton]
 by_cases h : p.1 = (a : Int) <;> simp [h]
theorem cntP_append (ps qs : List PtrD) (a : Nat) : cntP (ps ++ qs) a = cntP ps a + cntP qs a := by unfold cntP; rw [List.countP_append]
theorem cntP_take {ps : List PtrD} {k : Nat} {p : PtrD} (h : ps[k]? = some p) (a : Nat) : cntP (ps.take (k + 1)) a = cntP (ps.take k) a + if p.1 = (a : Int) then 1 else 0 := by
 rw [List.take_add_one, h]
 exact cntP_snoc _ _ _
theorem cntP_le (ps : List PtrD) (k a : Nat) : cntP (ps.take k) a ≤ cntP ps a := by
 have h : cntP (ps.take k ++ ps.drop k) a = cntP ps a := by rw [List.take_append_drop]
 rw [cntP_append] at h
 omega
theorem cntP_len (ps : List PtrD) (a : Nat) : cntP ps a ≤ ps.length := by unfold cntP; exact List.countP_le_length
def rowT (n : Int) (s : ByteArray) : Prop := s.size ≤ 128 ∧ (s.size = 0 ↔ n = 0)
structure StoreOk (x : StoreD) : Prop where
 len : x.1.length = 64
 sp : spOk x.2.1.1 x.2.1.2 = true
 txg : inB x.2.2.1 1 900 = true
 keep : inB x.2.2.2.2.1 0 (x.2.2.1 - 1) = true
 last : ∀ i, i < 64 → x.2.1.2.getD i 0 ≤ x.2.2.1
 rows : ∀ i, i < 64 → rowT (x.2.1.1.getD i 0) (x.1.getD i ByteArray.empty)
 gone : ∀ p ∈ x.2.2.2.1, goodP (x.2.2.1 - 1) p = true
 dead : ∀ p ∈ x.2.2.2.2.2.1, goodP x.2.2.2.2.1 p = true
 owed : ∀ i, i < 64 → ((cntP x.2.2.2.1 i + cntP x.2.2.2.2.2.1 i : Nat) : Int) ≤ x.2.1.1.getD i 0
open Classical in
noncomputable def storeOk (x : StoreD) : Bool := decide (StoreOk x)
open Classical in
theorem storeOk_yes {x : StoreD} (h : StoreOk x) : storeOk x = true := by unfold storeOk; exact decide_eq_true h
open Classical in
theorem storeOk_no {x : StoreD} (h : ¬ StoreOk x) : storeOk x = false := by unfold storeOk; exact decide_eq_false h
open Classical in
theorem storeOk_of {x : StoreD} (h : storeOk x = true) : StoreOk x := by unfold storeOk at h; exact of_decide_eq_true h
theorem getD_set {l : List Int} {a i : Nat} {v : Int} (ha : a < l.length) : (l.set a v).getD i 0 = if a = i then v else l.getD i 0 := by
 simp only [List.getD, List.getElem?_set]
 by_cases h : a = i
 · subst h; rw [if_pos rfl, if_pos ha, if_pos rfl]; rfl
 · rw [if_neg h, if_neg h]
end Go.Proofs.YtjnhiiaejeaikaaGreatDoor
namespace Go.Proofs.YtjnhiiaejeaikaaGreatDoor
section
open Go.RowKit
set_option maxRecDepth 100000 in
set_option maxHeartbeats 2000000 in
theorem eqStringS_yes (A B : Option Addr) (n c m d : Nat) (xs : List ByteArray) (w : World) (lo hi lo' hi' : Nat) (h : SliceR StrR 1 w lo hi A n c xs) (h' : SliceR StrR 1 w lo' hi' B m d xs) :
 Calls Tryz.prog 33 #[.slice A n c, .slice B m d] w fun e w' => e = .returned (.bool true) ∧ Below w.heap.size w w' := by
 obtain rfl : m = n := by have := h.len; have := h'.len; omega
 have hn := h.max
 have hl := Lib.hid h.len
 have H := Lib.hid h
 have H' := Lib.hid h'
 clear h h'
 go_enter Tryz.func33, Tryz.ntmps33
 go_wp2_with fail
 go_loopw [5] (fun i wr => ∃ k : Nat, k ≤ m ∧ i = .int .i64 k ∧ Below w.heap.size w wr) (fun i _ => m - (intOf i).toNat)
 case atStart => exact ⟨0, Nat.zero_le _, rfl, Below.refl _ _⟩
 case round =>
  obtain ⟨k, hk, rfl, hB⟩ := hrel
  by_cases hlt : k < m
  · obtain ⟨x, hx⟩ : ∃ x, xs[k]? = some x := ⟨xs[k]'(by rw [hl.out]; exact hlt), List.getElem?_eq_getElem _⟩
    have g := SliceR.below H.out hB (StrR.below hB H.out.lo_le)
    have g' := SliceR.below H'.out hB (StrR.below hB H'.out.lo_le)
    obtain ⟨b, off, rfl, _, _, bl, hc⟩ := g.at_ (by omega)
    obtain ⟨b', off', rfl, _, _, bl', hc'⟩ := g'.at_ (by omega)
    obtain ⟨cs, hcl, hcc, hr⟩ := hc k x hx
    obtain ⟨cs', hcl', hcc', hr'⟩ := hc' k x hx
    clear hc hc' hx g g'
    have G := Lib.hid hr
    have G' := Lib.hid hr'
    obtain ⟨rfl, _⟩ := hr; obtain ⟨rfl, _⟩ := hr'
    clear G G'
    have hr := 0; have hr' := 0
    have q0 := hcc 0 _ rfl
    have r0 := hcc' 0 _ rfl
    simp only [Nat.add_zero, Nat.mul_one] at q0 r0
    clear hcc hcc' hcl hcl' hr hr'
    have hhi := H.out.lo_le
    have hhi' := H'.out.lo_le
    have hi1 : hi ≤ wr.heap.size := Nat.le_trans hhi hB.size
    have hi2 : hi' ≤ wr.heap.size := Nat.le_trans hhi' hB.size
    clear hhi hhi'
    have k0 : (0 : Int) ≤ (k : Int) := by omega
    have k1 : (k : Int) < (m : Int) := by omega
    go_wp2_with fail
    apply wp_region_rg (by kernel_rfl) (false :: false :: false :: false :: false :: false :: false :: false :: false :: false :: false :: false :: false :: false :: false :: false :: false :: true :: true :: true :: true :: true :: true :: true :: true :: true :: []) [some 17, some 18, some 19, some 20, some 21, some 22, some 23, some 24, some 25] [[], [], [0, 1], [2], [], [], [4, 5], [6], [3, 7]] [StP.is _, StP.is _, StP.is _, StP.is _, StP.is _, StP.is _, StP.is _, StP.is _, StP.is _] (by kernel_rfl)
    case hobs =>
     refine ⟨fun y w' hS hF K hK => ?_, ?_⟩
     · skip
       simp only [fillL, cond_true, cond_false, List.getD_cons_zero, List.getD_cons_succ, StP.is, Act.put, List.setIfInBounds_toArray, List.set_cons_zero, List.set_cons_succ, Nat.reduceAdd] at hK ⊢
       refine rg_yes (by kernel_rfl) ?_
       clear hF
       go_simp
       exact hK _ _ (Ext.refl _) rfl
     refine ⟨fun y w' hS hF K hK => ?_, ?_⟩
     · skip
       simp only [fillL, cond_true, cond_false, List.getD_cons_zero, List.getD_cons_succ, StP.is, Act.put, List.setIfInBounds_toArray, List.set_cons_zero, List.set_cons_succ, Nat.reduceAdd] at hK ⊢
       refine rg_yes (by kernel_rfl) ?_
       clear hF
       go_simp
       exact hK _ _ (Ext.refl _) rfl
     refine ⟨fun y w' hS hF K hK => ?_, ?_⟩
     · skip
       have e17 : y 17 = _ := hF.1
       have e18 : y 18 = _ := hF.2.1
       simp only [fillL, cond_true, cond_false, List.getD_cons_zero, List.getD_cons_succ, StP.is, Act.put, List.setIfInBounds_toArray, List.set_cons_zero, List.set_cons_succ, Nat.reduceAdd, e17, e18] at hK ⊢
       refine rg_yes (by kernel_rfl) ?_
       clear e17 e18
       clear hF
       go_simp
       exact hK _ _ (Ext.refl _) rfl
     refine ⟨fun y w' hS hF K hK => ?_, ?_⟩
     · skip
       have e19 : y 19 = _ := hF.1
       simp only [fillL, cond_true, cond_false, List.getD_cons_zero, List.getD_cons_succ, StP.is, Act.put, List.setIfInBounds_toArray, List.set_cons_zero, List.set_cons_succ, Nat.reduceAdd, e19] at hK ⊢
       refine rg_yes (by kernel_rfl) ?_
       have qx0_ := (Below.cell hS bl).trans q0
       have qx1_ := (Below.cell hS bl').trans r0
       clear e19
       clear hF
       go_simp
       exact hK _ _ (Ext.refl _) rfl
     refine ⟨fun y w' hS hF K hK => ?_, ?_⟩
     · skip
       simp only [fillL, cond_true, cond_false, List.getD_cons_zero, List.getD_cons_succ, StP.is, Act.put, List.setIfInBounds_toArray, List.set_cons_zero, List.set_cons_succ, Nat.reduceAdd] at hK ⊢
       refine rg_yes (by kernel_rfl) ?_
       clear hF
       go_simp
       exact hK _ _ (Ext.refl _) rfl
     refine ⟨fun y w' hS hF K hK => ?_, ?_⟩
     · skip
       simp only [fillL, cond_true, cond_false, List.getD_cons_zero, List.getD_cons_succ, StP.is, Act.put, List.setIfInBounds_toArray, List.set_cons_zero, List.set_cons_succ, Nat.reduceAdd] at hK ⊢
       refine rg_yes (by kernel_rfl) ?_
       clear hF
       go_simp
       exact hK _ _ (Ext.refl _) rfl
     refine ⟨fun y w' hS hF K hK => ?_, ?_⟩
     · skip
       have e21 : y 21 = _ := hF.1
       have e22 : y 22 = _ := hF.2.1
       simp only [fillL, cond_true, cond_false, List.getD_cons_zero, List.getD_cons_succ, StP.is, Act.put, List.setIfInBounds_toArray, List.set_cons_zero, List.set_cons_succ, Nat.reduceAdd, e21, e22] at hK ⊢
       refine rg_yes (by kernel_rfl) ?_
       clear e21 e22
       clear hF
       go_simp
       exact hK _ _ (Ext.refl _) rfl
     refine ⟨fun y w' hS hF K hK => ?_, ?_⟩
     · skip
       have e23 : y 23 = _ := hF.1
       simp only [fillL, cond_true, cond_false, List.getD_cons_zero, List.getD_cons_succ, StP.is, Act.put, List.setIfInBounds_toArray, List.set_cons_zero, List.set_cons_succ, Nat.reduceAdd, e23] at hK ⊢
       refine rg_yes (by kernel_rfl) ?_
       have qx0_ := (Below.cell hS bl).trans q0
       have qx1_ := (Below.cell hS bl').trans r0
       clear e23
       clear hF
       go_simp
       exact hK _ _ (Ext.refl _) rfl
     refine ⟨fun y w' hS hF K hK => ?_, ?_⟩
     · skip
       have e20 : y 20 = _ := hF.1
       have e24 : y 24 = _ := hF.2.1
       simp only [fillL, cond_true, cond_false, List.getD_cons_zero, List.getD_cons_succ, StP.is, Act.put, List.setIfInBounds_toArray, List.set_cons_zero, List.set_cons_succ, Nat.reduceAdd, e20, e24] at hK ⊢
       refine rg_yes (by kernel_rfl) ?_
       clear e20 e24
       clear hF
       go_simp
       exact hK _ _ (Ext.refl _) rfl
     trivial
    case hend =>
     intro y w2 hX hF
     have e25 : y 25 = _ := hF.2.2.2.2.2.2.2.2.1
     clear hF
     simp only [fillL, cond_true, cond_false, Nat.reduceAdd, e25]
     clear e25
     have hB2 : Below w.heap.size w w2 := hB.trans (Below.mono hX hB.size)
     clear hX hB
     go_wp2_with fail
     go_roundw
     case rel => exact ⟨k + 1, by omega, by go_num, hB2⟩
     case measure => simp [intOf]; omega
  · go_wp2_with fail
    go_ret
    exact ⟨rfl, hB⟩
end
section
open Go.RowKit
end
end Go.Proofs.YtjnhiiaejeaikaaGreatDoor
namespace Go.Proofs.YtjnhiiaejeaikaaGreatDoor
open Go.RowKit
set_option maxHeartbeats 1000000 in
theorem eqPtr_yes (cs cs' : List Value) (x : PtrD) (w : World) (lo hi lo' hi' : Nat) (h : PtrR w lo hi cs x) (h' : PtrR w lo' hi' cs' x) :
 Calls Tryz.prog 52 #[.agg cs.toArray, .agg cs'.toArray] w fun e w' => e = .returned (.bool true) ∧ Below w.heap.size w w' := by
 obtain ⟨at_, birth_, size_, sum_, level_⟩ := x
 obtain rfl := h
 obtain rfl := h'
 show Calls Tryz.prog 52 #[.agg #[.int .i64 at_, .int .i64 birth_, .int .i64 size_, .int .i64 sum_, .int .i64 level_], .agg #[.int .i64 at_, .int .i64 birth_, .int .i64 size_, .int .i64 sum_, .int .i64 level_]] w _
 go_enter Tryz.func52, Tryz.ntmps52
 go_wp2_with fail
 go_ret
 exact ⟨rfl, bel2⟩
set_option maxRecDepth 100000 in
set_option maxHeartbeats 2000000 in
theorem eqPtrS_yes (A B : Option Addr) (n c m d : Nat) (xs : List PtrD) (w : World) (lo hi lo' hi' : Nat) (h : SliceR PtrR 5 w lo hi A n c xs) (h' : SliceR PtrR 5 w lo' hi' B m d xs) :
 Calls Tryz.prog 35 #[.slice A n c, .slice B m d] w fun e w' => e = .returned (.bool true) ∧ Below w.heap.size w w' := by
 obtain rfl : m = n := by have := h.len; have := h'.len; omega
 have hn := h.max
 have hl := Lib.hid h.len
 have H := Lib.hid h
 have H' := Lib.hid h'
 clear h h'
 go_enter Tryz.func35, Tryz.ntmps35
 go_wp2_with fail
 go_loopw [5] (fun i wr => ∃ k : Nat, k ≤ m ∧ i = .int .i64 k ∧ Below w.heap.size w wr) (fun i _ => m - (intOf i).toNat)
 case atStart => exact ⟨0, Nat.zero_le _, rfl, Below.refl _ _⟩
 case round =>
  obtain ⟨k, hk, rfl, hB⟩ := hrel
  by_cases hlt : k < m
  · obtain ⟨x, hx⟩ : ∃ x, xs[k]? = some x := ⟨xs[k]'(by rw [hl.out]; exact hlt), List.getElem?_eq_getElem _⟩
    have g := SliceR.below H.out hB (PtrR.below hB H.out.lo_le)
    have g' := SliceR.below H'.out hB (PtrR.below hB H'.out.lo_le)
    obtain ⟨b, off, rfl, _, _, bl, hc⟩ := g.at_ (by omega)
    obtain ⟨b', off', rfl, _, _, bl', hc'⟩ := g'.at_ (by omega)
    obtain ⟨cs, hcl, hcc, hr⟩ := hc k x hx
    obtain ⟨cs', hcl', hcc', hr'⟩ := hc' k x hx
    clear hc hc' hx g g'
    have G := Lib.hid hr
    have G' := Lib.hid hr'
    obtain ⟨v0, v1, v2, v3, v4, rfl⟩ := list5 hcl
    obtain ⟨u0, u1, u2, u3, u4, rfl⟩ := list5 hcl'
    have q0 := hcc 0 _ rfl
    have r0 := hcc' 0 _ rfl
    have q1 := hcc 1 _ rfl
    have r1 := hcc' 1 _ rfl
    have q2 := hcc 2 _ rfl
    have r2 := hcc' 2 _ rfl
    have q3 := hcc 3 _ rfl
    have r3 := hcc' 3 _ rfl
    have q4 := hcc 4 _ rfl
    have r4 := hcc' 4 _ rfl
    simp only [Nat.add_zero] at q0 r0
    clear hcc hcc' hcl hcl' hr hr'
    have hhi := H.out.lo_le
    have hhi' := H'.out.lo_le
    have hi1 : hi ≤ wr.heap.size := Nat.le_trans hhi hB.size
    have hi2 : hi' ≤ wr.heap.size := Nat.le_trans hhi' hB.size
    clear hhi hhi'
    have k0 : (0 : Int) ≤ (k : Int) := by omega
    have k1 : (k : Int) < (m : Int) := by omega
    go_wp2_with fail
    apply wp_region_rg (by kernel_rfl) [false, false, false, false, false, false, false, false, false, false, false, false, false, false, false, false, false, true, true, true, true, true, true, true, true, true, true] [some 17, some 18, some 19, some 20, some 21, some 22, some 23, some 24, some 25, some 26] [[], [], [0, 1], [2], [], [], [4, 5], [6], [3, 7], [8]] [.is _, .is _, .is _, .is _, .is _, .is _, .is _, .is _, .is _, .is _] (by kernel_rfl)
    case hobs =>
     refine ⟨fun y w' hS hF K hK => ?_, ?_⟩
     · skip
       simp only [fillL, cond_true, cond_false, List.getD_cons_zero, List.getD_cons_succ, StP.is, Act.put, List.setIfInBounds_toArray, List.set_cons_zero, List.set_cons_succ, Nat.reduceAdd] at hK ⊢
       refine rg_yes (by kernel_rfl) ?_
       clear hF
       go_simp
       exact hK _ _ (Ext.refl _) rfl
     refine ⟨fun y w' hS hF K hK => ?_, ?_⟩
     · skip
       simp only [fillL, cond_true, cond_false, List.getD_cons_zero, List.getD_cons_succ, StP.is, Act.put, List.setIfInBounds_toArray, List.set_cons_zero, List.set_cons_succ, Nat.reduceAdd] at hK ⊢
       refine rg_yes (by kernel_rfl) ?_
       clear hF
       go_simp
       exact hK _ _ (Ext.refl _) rfl
     refine ⟨fun y w' hS hF K hK => ?_, ?_⟩
     · skip
       have e17 : y 17 = _ := hF.1
       have e18 : y 18 = _ := hF.2.1
       simp only [fillL, cond_true, cond_false, List.getD_cons_zero, List.getD_cons_succ, StP.is, Act.put, List.setIfInBounds_toArray, List.set_cons_zero, List.set_cons_succ, Nat.reduceAdd, e17, e18] at hK ⊢
       refine rg_yes (by kernel_rfl) ?_
       clear e17 e18
       clear hF
       go_simp
       exact hK _ _ (Ext.refl _) rfl
     refine ⟨fun y w' hS hF K hK => ?_, ?_⟩
     · skip
       have e19 : y 19 = _ := hF.1
       simp only [fillL, cond_true, cond_false, List.getD_cons_zero, List.getD_cons_succ, StP.is, Act.put, List.setIfInBounds_toArray, List.set_cons_zero, List.set_cons_succ, Nat.reduceAdd, e19] at hK ⊢
       refine rg_yes (by kernel_rfl) ?_
       have q0 := (Below.cell hS bl).trans q0
       have q1 := (Below.cell hS bl).trans q1
       have q2 := (Below.cell hS bl).trans q2
       have q3 := (Below.cell hS bl).trans q3
       have q4 := (Below.cell hS bl).trans q4
       have q5 := (Below.cell hS bl').trans r0
       have q6 := (Below.cell hS bl').trans r1
       have q7 := (Below.cell hS bl').trans r2
       have q8 := (Below.cell hS bl').trans r3
       have q9 := (Below.cell hS bl').trans r4
       clear e19
       clear hF
       go_simp
       exact hK _ _ (Ext.refl _) rfl
     refine ⟨fun y w' hS hF K hK => ?_, ?_⟩
     · skip
       simp only [fillL, cond_true, cond_false, List.getD_cons_zero, List.getD_cons_succ, StP.is, Act.put, List.setIfInBounds_toArray, List.set_cons_zero, List.set_cons_succ, Nat.reduceAdd] at hK ⊢
       refine rg_yes (by kernel_rfl) ?_
       clear hF
       go_simp
       exact hK _ _ (Ext.refl _) rfl
     refine ⟨fun y w' hS hF K hK => ?_, ?_⟩
     · skip
       simp only [fillL, cond_true, cond_false, List.getD_cons_zero, List.getD_cons_succ, StP.is, Act.put, List.setIfInBounds_toArray, List.set_cons_zero, List.set_cons_succ, Nat.reduceAdd] at hK ⊢
       refine rg_yes (by kernel_rfl) ?_
       clear hF
       go_simp
       exact hK _ _ (Ext.refl _) rfl
     refine ⟨fun y w' hS hF K hK => ?_, ?_⟩
     · skip
       have e21 : y 21 = _ := hF.1
       have e22 : y 22 = _ := hF.2.1
       simp only [fillL, cond_true, cond_false, List.getD_cons_zero, List.getD_cons_succ, StP.is, Act.put, List.setIfInBounds_toArray, List.set_cons_zero, List.set_cons_succ, Nat.reduceAdd, e21, e22] at hK ⊢
       refine rg_yes (by kernel_rfl) ?_
       clear e21 e22
       clear hF
       go_simp
       exact hK _ _ (Ext.refl _) rfl
     refine ⟨fun y w' hS hF K hK => ?_, ?_⟩
     · skip
       have e23 : y 23 = _ := hF.1
       simp only [fillL, cond_true, cond_false, List.getD_cons_zero, List.getD_cons_succ, StP.is, Act.put, List.setIfInBounds_toArray, List.set_cons_zero, List.set_cons_succ, Nat.reduceAdd, e23] at hK ⊢
       refine rg_yes (by kernel_rfl) ?_
       have q0 := (Below.cell hS bl).trans q0
       have q1 := (Below.cell hS bl).trans q1
       have q2 := (Below.cell hS bl).trans q2
       have q3 := (Below.cell hS bl).trans q3
       have q4 := (Below.cell hS bl).trans q4
       have q5 := (Below.cell hS bl').trans r0
       have q6 := (Below.cell hS bl').trans r1
       have q7 := (Below.cell hS bl').trans r2
       have q8 := (Below.cell hS bl').trans r3
       have q9 := (Below.cell hS bl').trans r4
       clear e23
       clear hF
       go_simp
       exact hK _ _ (Ext.refl _) rfl
     refine ⟨fun y w' hS hF K hK => ?_, ?_⟩
     · skip
       have e20 : y 20 = _ := hF.1
       have e24 : y 24 = _ := hF.2.1
       simp only [fillL, cond_true, cond_false, List.getD_cons_zero, List.getD_cons_succ, StP.is, Act.put, List.setIfInBounds_toArray, List.set_cons_zero, List.set_cons_succ, Nat.reduceAdd, e20, e24] at hK ⊢
       refine rg_yes (by kernel_rfl) ?_
       clear e20 e24
       clear hF
       go_simp
       go_at_call 52
       refine (eqPtr_yes _ _ x _ _ _ _ _ (PtrR.below hS hi1 _ _ G.out) (PtrR.below hS hi2 _ _ G'.out)).mono ?_
       rintro e w'' ⟨rfl, hb⟩
       exact hK _ _ hb rfl
     refine ⟨fun y w' hS hF K hK => ?_, ?_⟩
     · skip
       have e25 : y 25 = _ := hF.1
       simp only [fillL, cond_true, cond_false, List.getD_cons_zero, List.getD_cons_succ, StP.is, Act.put, List.setIfInBounds_toArray, List.set_cons_zero, List.set_cons_succ, Nat.reduceAdd, e25] at hK ⊢
       refine rg_yes (by kernel_rfl) ?_
       clear e25
       clear hF
       go_simp
       exact hK _ _ (Ext.refl _) rfl
     trivial
    case hend =>
     intro y w2 hX hF
     have e26 : y 26 = _ := hF.2.2.2.2.2.2.2.2.2.1
     clear hF
     simp only [fillL, cond_true, cond_false, Nat.reduceAdd, e26]
     clear e26
     have hB2 : Below w.heap.size w w2 := hB.trans (Below.mono hX hB.size)
     clear hX hB
     go_wp2_with fail
     go_roundw
     case rel => exact ⟨k + 1, by omega, by go_num, hB2⟩
     case measure => simp [intOf]; omega
  · go_wp2_with fail
    go_ret
    exact ⟨rfl, hB⟩
end Go.Proofs.YtjnhiiaejeaikaaGreatDoor
namespace Go.Proofs.YtjnhiiaejeaikaaGreatDoor
open Go.RowKit
set_option maxRecDepth 100000 in
set_option maxHeartbeats 2000000 in
theorem toPtrF_any (cs : List Value) (x : PtrD) (w w0 : World) (lo hi : Nat) (h : PtrR w0 lo hi cs x) :
 Calls Tryz.prog 31 #[.agg cs.toArray] w fun e w' => e = .returned (.agg cs.toArray) ∧ Below w.heap.size w w' := by
 obtain ⟨at_, birth_, size_, sum_, level_⟩ := x
 obtain rfl := h
 show Calls Tryz.prog 31 #[.agg #[.int .i64 at_, .int .i64 birth_, .int .i64 size_, .int .i64 sum_, .int .i64 level_]] w _
 go_enter Tryz.func31, Tryz.ntmps31
 go_wp2
 exact bodyPost_ret (v := .agg #[.int .i64 at_, .int .i64 birth_, .int .i64 size_, .int .i64 sum_, .int .i64 level_]) (by simp [results, Tryz.results31, go_sem]) rfl ⟨rfl, by repeat (first | exact Below.refl _ _ | assumption | refine Below.setCell ?_ (by simp <;> omega) _ | refine Below.alloc ?_ (by simp <;> omega) _)⟩
theorem info_PtrS : (Tryz.prog.info? 41).map (fun i => (i.zero, i.size, i.bytes)) = some (some (.agg #[.int .i64 0, .int .i64 0, .int .i64 0, .int .i64 0, .int .i64 0]), 5, 40) := by kernel_rfl
theorem make_PtrS (n : Nat) (hn : n ≤ 1048576) (w : World) :
 (Instr.makeSlice 37 (.int .i64 (n : Int)) (.int .i64 (n : Int))).run Tryz.prog w = .ok (.slice (some ⟨w.heap.size, 0, none⟩) n n) (w.alloc (.cells (madeCells #[.int .i64 0, .int .i64 0, .int .i64 0, .int .i64 0, .int .i64 0] (n * 5)) 41)) := by
 obtain ⟨i, hi, hz, hs, hb⟩ := info_parts info_PtrS
 have hr := run_make (P := Tryz.prog) w 37 41 i (.agg #[.int .i64 0, .int .i64 0, .int .i64 0, .int .i64 0, .int .i64 0]) Tryz.underlying37 hi hz .i64 .i64 n n (by omega) (by omega) (by rw [hb]; omega) (by omega)
 simp only [Int.toNat_natCast, hs] at hr
 exact hr
set_option maxRecDepth 100000 in
set_option maxHeartbeats 2000000 in
theorem toPtrS_any (A : Option Addr) (n c : Nat) (xs : List PtrD) (w : World) (lo hi : Nat) (h : SliceR PtrR 5 w lo hi A n c xs) (hz : xs.length ≤ 1048576) :
 Calls Tryz.prog 30 #[.slice A n c] w (NewSl PtrR 5 w n xs) := by
 have hl := Lib.hid h.len
 have hn : n ≤ 1048576 := by have := h.len; omega
 have HZ := Lib.hid hz
 clear hz
 have hmk := make_PtrS n hn w
 have H := Lib.hid h
 clear h
 go_enter Tryz.func30, Tryz.ntmps30
 go_wp2_with fail
 have hrow : ∃ cur, (w.alloc (.cells (madeCells #[.int .i64 0, .int .i64 0, .int .i64 0, .int .i64 0, .int .i64 0] (n * 5)) 41)).heap[w.heap.size]? = some (.cells cur 41 (0, 0)) ∧ cur.size = n * 5 := ⟨_, heap_alloc_new w _, size_madeCells _ _⟩
 generalize hW : w.alloc (.cells (madeCells #[.int .i64 0, .int .i64 0, .int .i64 0, .int .i64 0, .int .i64 0] (n * 5)) 41) = w1 at *
 have hb1 : Below w.heap.size w w1 := by rw [← hW]; exact bel1
 have hs1 : w.heap.size < w1.heap.size := by rw [← hW]; simp
 clear hW hmk
 have rel0 : ∃ cur, w1.heap[w.heap.size]? = some (.cells cur 41 (0, 0)) ∧ cur.size = n * 5 ∧ Hid (RowR PtrR 5 w1 (w.heap.size + 1) w1.heap.size cur 0 xs) := by
  obtain ⟨cur, h1, h2⟩ := hrow
  exact ⟨cur, h1, h2, Lib.hid (fun j x hj => absurd hj (by omega))⟩
 clear hrow
 go_loopw [4] (fun i wr => ∃ k : Nat, k ≤ n ∧ i = .int .i64 k ∧ Below w.heap.size w wr ∧ w.heap.size < wr.heap.size ∧ ∃ cur, wr.heap[w.heap.size]? = some (.cells cur 41 (0, 0)) ∧ cur.size = n * 5 ∧ Hid (RowR PtrR 5 wr (w.heap.size + 1) wr.heap.size cur k xs)) (fun i _ => n - (intOf i).toNat)
 case atStart => exact ⟨0, Nat.zero_le _, rfl, hb1, hs1, rel0⟩
 case round =>
  clear rel0 hb1 hs1
  obtain ⟨k, hk, rfl, hB, hS, cur, hg, hcs, HR⟩ := hrel
  by_cases hlt : k < n
  · obtain ⟨x, hx⟩ : ∃ x, xs[k]? = some x := ⟨xs[k]'(by rw [hl.out]; exact hlt), List.getElem?_eq_getElem _⟩
    obtain ⟨b, off, rfl, _, _, bl, hc⟩ := (SliceR.below H.out hB (PtrR.below hB H.out.lo_le)).at_ (by omega)
    obtain ⟨cs, hcl, hcc, hr⟩ := hc k x hx
    clear hc
    have hhi : hi ≤ wr.heap.size := Nat.le_trans H.out.lo_le hB.size
    obtain ⟨at_, birth_, size_, sum_, level_⟩ := x
    have hr0 := hr
    obtain rfl := hr0
    have G := Lib.hid hr
    have q0 := hcc 0 _ rfl
    have q1 := hcc 1 _ rfl
    have q2 := hcc 2 _ rfl
    have q3 := hcc 3 _ rfl
    have q4 := hcc 4 _ rfl
    simp only [Nat.add_zero] at q0
    clear hcc hcl hr
    have k0 : (0 : Int) ≤ (k : Int) := by omega
    have k1 : (k : Int) < (n : Int) := by omega
    have HX := Lib.hid hx
    clear hx
    have HG := Lib.hid hg
    have hkn : k * 5 + 5 ≤ cur.size := by rw [hcs]; omega
    have HC := Lib.hid hcs
    clear hg hcs
    go_wp2_with fail
    refine (toPtrF_any [.int .i64 at_, .int .i64 birth_, .int .i64 size_, .int .i64 sum_, .int .i64 level_] _ _ wr _ _ G.out).mono ?_
    rintro e w2 ⟨rfl, hb2⟩
    have hg2 := (hb2.block _ hS).trans HG.out
    have hs2 : w.heap.size < w2.heap.size := Nat.lt_of_lt_of_le hS hb2.size
    have hB2 : Below w.heap.size w w2 := hB.trans (hb2.mono hB.size)
    have HK := Lib.hid hb2
    clear hb2 bl q0 q1 q2 q3 q4
    have t0 : w2.cell? ⟨w.heap.size, k * 5, none⟩ = some _ := block_cell hg2 (by omega)
    have f0 : w2.frozen? ⟨w.heap.size, k * 5, none⟩ = false := block_free hg2 _
    have t1 : w2.cell? ⟨w.heap.size, k * 5 + 1, none⟩ = some _ := block_cell hg2 (by omega)
    have f1 : w2.frozen? ⟨w.heap.size, k * 5 + 1, none⟩ = false := block_free hg2 _
    have t2 : w2.cell? ⟨w.heap.size, k * 5 + 2, none⟩ = some _ := block_cell hg2 (by omega)
    have f2 : w2.frozen? ⟨w.heap.size, k * 5 + 2, none⟩ = false := block_free hg2 _
    have t3 : w2.cell? ⟨w.heap.size, k * 5 + 3, none⟩ = some _ := block_cell hg2 (by omega)
    have f3 : w2.frozen? ⟨w.heap.size, k * 5 + 3, none⟩ = false := block_free hg2 _
    have t4 : w2.cell? ⟨w.heap.size, k * 5 + 4, none⟩ = some _ := block_cell hg2 (by omega)
    have f4 : w2.frozen? ⟨w.heap.size, k * 5 + 4, none⟩ = false := block_free hg2 _
    have HG2 := Lib.hid hg2
    clear hg2
    generalize cur[k * 5]'_ = z0 at t0
    generalize cur[k * 5 + 1]'_ = z1 at t1
    generalize cur[k * 5 + 2]'_ = z2 at t2
    generalize cur[k * 5 + 3]'_ = z3 at t3
    generalize cur[k * 5 + 4]'_ = z4 at t4
    go_wp2_with fail
    go_roundw
    case rel =>
     have hput : putAt cur (k * 5) [.int .i64 at_, .int .i64 birth_, .int .i64 size_, .int .i64 sum_, .int .i64 level_] = (((((cur.setIfInBounds (k * 5) (.int .i64 at_)).setIfInBounds (k * 5 + 1) (.int .i64 birth_)).setIfInBounds (k * 5 + 2) (.int .i64 size_)).setIfInBounds (k * 5 + 3) (.int .i64 sum_)).setIfInBounds (k * 5 + 4) (.int .i64 level_)) := by simp only [putAt, Nat.add_assoc, Nat.reduceAdd]
     refine ⟨k + 1, by omega, by go_num, Below.setCell (p := ⟨w.heap.size, _, none⟩) (Below.setCell (p := ⟨w.heap.size, _, none⟩) (Below.setCell (p := ⟨w.heap.size, _, none⟩) (Below.setCell (p := ⟨w.heap.size, _, none⟩) (Below.setCell (p := ⟨w.heap.size, _, none⟩) (hB2) (Nat.le_refl _) _) (Nat.le_refl _) _) (Nat.le_refl _) _) (Nat.le_refl _) _) (Nat.le_refl _) _, by simpa using hs2, (((((cur.setIfInBounds (k * 5) (.int .i64 at_)).setIfInBounds (k * 5 + 1) (.int .i64 birth_)).setIfInBounds (k * 5 + 2) (.int .i64 size_)).setIfInBounds (k * 5 + 3) (.int .i64 sum_)).setIfInBounds (k * 5 + 4) (.int .i64 level_)), block_set (block_set (block_set (block_set (block_set (HG2.out))))), (by rw [← hput, putAt_size]; exact HC.out), Lib.hid ?_⟩
     rw [← hput]
     refine RowR.step (n := n) HR.out HX.out rfl HC.out hlt ?_ ?_
     · exact G.out
     · exact fun _ _ h => h
    case measure => simp [intOf]; omega
  · obtain rfl : k = n := by omega
    have hfin := RowR.slice (lo := w.heap.size) (hi := wr.heap.size) (c := k) (fun j x hj hx => (HR.out j x hj hx).imp fun cs h => ⟨h.1, h.2.1, PtrR.wide (Nat.le_succ _) (Nat.le_refl _) (Nat.le_refl _) _ _ h.2.2⟩) hl.out (by unfold maxLen; omega) (Nat.le_refl _) hg (Nat.le_refl _) hS (Nat.le_refl _)
    have HF := Lib.hid hfin
    clear hfin HR hg hcs
    go_wp2_with fail
    go_ret
    exact ⟨_, _, rfl, HF.out, hB⟩
set_option maxRecDepth 100000 in
set_option maxHeartbeats 2000000 in
theorem toTreeF_any (cs : List Value) (x : TreeD) (w w0 : World) (lo hi : Nat) (h : TreeR w0 lo hi cs x) :
 Calls Tryz.prog 10 #[.agg cs.toArray] w fun e w' => e = .returned (.agg cs.toArray) ∧ Below w.heap.size w w' := by
 obtain ⟨⟨root_at_, root_birth_, root_size_, root_sum_, root_level_⟩, depth_, many_⟩ := x
 obtain rfl := h
 show Calls Tryz.prog 10 #[.agg #[.int .i64 root_at_, .int .i64 root_birth_, .int .i64 root_size_, .int .i64 root_sum_, .int .i64 root_level_, .int .i64 depth_, .int .i64 many_]] w _
 go_enter Tryz.func10, Tryz.ntmps10
 go_wp2
 refine bodyPost_ret (v := .agg #[.int .i64 root_at_, .int .i64 root_birth_, .int .i64 root_size_, .int .i64 root_sum_, .int .i64 root_level_]) (by simp [results, Tryz.results31, go_sem]) rfl ?_
 go_wp2
 exact bodyPost_ret (v := .agg #[.int .i64 root_at_, .int .i64 root_birth_, .int .i64 root_size_, .int .i64 root_sum_, .int .i64 root_level_, .int .i64 depth_, .int .i64 many_]) (by simp [results, Tryz.results10, go_sem]) rfl ⟨rfl, by repeat (first | exact Below.refl _ _ | assumption | refine Below.setCell ?_ (by simp <;> omega) _ | refine Below.alloc ?_ (by simp <;> omega) _)⟩
theorem toIntS_new (A : Option Addr) (n c : Nat) (xs : List Int) (w : World) (lo hi : Nat) (h : SliceR IntR 1 w lo hi A n c xs) (hz : xs.length ≤ 1048576) :
 Calls Tryz.prog 49 #[.slice A n c] w (NewSl IntR 1 w n xs) := by
 have hl := h.len
 refine (toIntS_any A n c xs w h.ints (by omega)).mono ?_
 rintro e w' ⟨A', c', S, rfl, ho, hS, hb⟩
 exact ⟨A', c', rfl, ho.sliceR (fun k hk => ⟨hS k hk, ho.lt k hk⟩) (Nat.le_refl _), hb⟩
end Go.Proofs.YtjnhiiaejeaikaaGreatDoor
namespace Go.Proofs.YtjnhiiaejeaikaaGreatDoor
open Go.RowKit
set_option maxRecDepth 100000 in
set_option maxHeartbeats 2000000 in
theorem szIntSR_any (A : Option Addr) (n c : Nat) (xs : List Int) (w : World) (lo hi : Nat) (left : Int) (h : SliceR IntR 1 w lo hi A n c xs) (h0 : 0 ≤ left) (h1 : left ≤ 1048576) :
 Calls Tryz.prog 46 #[.slice A n c, .int .i64 left] w (SzPost (xs.length) left w) := by
 have hl := h.len
 have hn := h.max
 have HL := Lib.hid hl
 have H := Lib.hid h
 clear h hl
 go_enter Tryz.func46, Tryz.ntmps46
 by_cases q1 : left - (n : Int) < 0
 · go_wp2_with fail
   go_ret
   exact ⟨-1, rfl, by omega, by omega, fun h => by omega, Below.refl _ _⟩
 go_wp2_with fail
 go_ret
 exact ⟨left - (n : Int), rfl, by omega, by omega, fun _ => by have := HL.out; omega, Below.refl _ _⟩
set_option maxRecDepth 100000 in
set_option maxHeartbeats 2000000 in
theorem szPtrS_any (A : Option Addr) (n c : Nat) (xs : List PtrD) (w : World) (lo hi : Nat) (left : Int) (h : SliceR PtrR 5 w lo hi A n c xs) (h0 : 0 ≤ left) (h1 : left ≤ 1048576) :
 Calls Tryz.prog 26 #[.slice A n c, .int .i64 left] w (SzPost (xs.length) left w) := by
 have hl := h.len
 have hn := h.max
 have HL := Lib.hid hl
 have H := Lib.hid h
 clear h hl
 go_enter Tryz.func26, Tryz.ntmps26
 by_cases q1 : left - (n : Int) < 0
 · go_wp2_with fail
   go_ret
   exact ⟨-1, rfl, by omega, by omega, fun h => by omega, Below.refl _ _⟩
 go_wp2_with fail
 go_ret
 exact ⟨left - (n : Int), rfl, by omega, by omega, fun _ => by have := HL.out; omega, Below.refl _ _⟩
end Go.Proofs.YtjnhiiaejeaikaaGreatDoor
