/- A law for a statement that draws its order: each operation is shown once, in any later world. No condition. -/
import Derived.Orders
import Derived.WalkKit
import Derived.Below
import Derived.Test.YtgipchipcoaajaaLib
namespace Go.Proofs.Ytgipchipcoaajaa
set_option linter.unusedVariables false
set_option linter.unusedSimpArgs false
set_option linter.unnecessarySimpa false
open Go.RowKit

/-- The frame's list with the marked slots' values from y. -/
def fillL (y : Nat → Value) : Nat → List Value → List Bool → List Value
  | _, [], _ => []
  | _, x :: xs, [] => x :: xs
  | k, x :: xs, b :: bs => (bif b then y k else x) :: fillL y (k + 1) xs bs

theorem fillL_length (y : Nat → Value) : ∀ (k : Nat) (xs : List Value) (bs : List Bool), (fillL y k xs bs).length = xs.length
  | _, [], _ => rfl
  | _, _ :: _, [] => rfl
  | k, _ :: xs, _ :: bs => by simp [fillL, fillL_length y (k + 1) xs bs]

theorem fillL_get (y : Nat → Value) : ∀ (xs : List Value) (bs : List Bool) (k i : Nat),
    (fillL y k xs bs)[i]? = if bs.getD i false then (xs[i]?).map (fun _ => y (k + i)) else xs[i]?
  | [], bs, k, i => by simp [fillL]
  | x :: xs, [], k, i => by simp [fillL]
  | x :: xs, b :: bs, k, 0 => by cases b <;> simp [fillL]
  | x :: xs, b :: bs, k, i + 1 => by
    have := fillL_get y xs bs (k + 1) i
    simp only [fillL, List.getElem?_cons_succ, this, List.getD_cons_succ]
    rw [show k + 1 + i = k + (i + 1) by omega]

/-- One world follows another: new memory alone, and draws. -/
def Ext (w w' : World) : Prop := Below w.heap.size w w'
theorem Ext.refl (w : World) : Ext w w := Below.refl _ _
theorem Ext.trans {a b c : World} (h : Ext a b) (k : Ext b c) : Ext a c := Below.trans h (Below.mono k (Below.size h))
theorem Ext.drew (w : World) : Ext w w.drew := Below.drew (Below.refl _ _)
theorem Ext.alloc (w : World) (o : Obj) : Ext w (w.alloc o) := (Below.refl _ _).alloc (Nat.le_refl _) _

/-- What is known of a value, in this world and in each later one. -/
structure StP where
  p : Value → World → Prop
  ext : ∀ v w w', Ext w w' → p v w → p v w'
/-- It is this value. -/
def StP.is (V : Value) : StP := ⟨fun v _ => v = V, fun _ _ _ _ h => h⟩
def StP.any : StP := ⟨fun _ _ => True, fun _ _ _ _ h => h⟩

/-- What is known of the operations j of a list: y holds the values. -/
def RgFacts (D : List (Option Nat)) (Φ : List StP) (y : Nat → Value) (w : World) : List Nat → Prop
  | [] => True
  | j :: js => (match D.getD j none with
      | some d => (Φ.getD j .any).p (y d) w
      | none => True) ∧ RgFacts D Φ y w js

theorem RgFacts.of {D : List (Option Nat)} {Φ : List StP} {y : Nat → Value} {w : World} :
    ∀ {js : List Nat}, (∀ j ∈ js, ∀ d, D.getD j none = some d → (Φ.getD j .any).p (y d) w) → RgFacts D Φ y w js
  | [], _ => trivial
  | j :: js, h => by
    refine ⟨?_, RgFacts.of fun k hk => h k (List.mem_cons_of_mem _ hk)⟩
    have := h j (List.mem_cons_self ..)
    split
    · rename_i d hd; exact this d hd
    · trivial

section
variable (P : Program) (ops : Array Oper) (Q : Exit → Act → World → Prop) (w0 : World) (T : List Value) (ds : List Deferred) (mask : List Bool)
  (D : List (Option Nat)) (Φ : List StP) (A : List (List Nat))

/-- What is to be shown of one operation. -/
def RgOb (i : Nat) (o : Oper) : Prop :=
  ∀ y w, Ext w0 w → RgFacts D Φ y w (A.getD i []) →
    ∀ K : Act → World → Prop, (∀ v w', Ext w w' → (Φ.getD i .any).p v w' → K ((⟨(fillL y 0 T mask).toArray, ds⟩ : Act).put o.dst v) w') →
      if Region.wanted o (yielded ops (fillL y 0 T mask).toArray) then o.wp P ⟨(fillL y 0 T mask).toArray, ds⟩ w K Q
      else K ((⟨(fillL y 0 T mask).toArray, ds⟩ : Act).put o.dst undef) w

def RgObs : Nat → List Oper → Prop
  | _, [] => True
  | i, o :: os => RgOb P ops Q w0 T ds mask D Φ A i o ∧ RgObs (i + 1) os
end

theorem RgObs.at_ {P : Program} {ops : Array Oper} {Q : Exit → Act → World → Prop} {w0 : World} {T : List Value} {ds : List Deferred} {mask : List Bool}
    {D : List (Option Nat)} {Φ : List StP} {A : List (List Nat)} :
    ∀ {k : Nat} {os : List Oper}, RgObs P ops Q w0 T ds mask D Φ A k os → ∀ i o, os[i]? = some o → RgOb P ops Q w0 T ds mask D Φ A (k + i) o
  | _, [], _, i, o, h => by simp at h
  | k, x :: xs, H, 0, o, h => by
    simp at h; subst h; exact H.1
  | k, x :: xs, H, i + 1, o, h => by
    have := RgObs.at_ H.2 i o (by simpa using h)
    rwa [show k + 1 + i = k + (i + 1) by omega] at this

/-- The binding edges' closure, as lists. -/
def ancsOf (ops : List Oper) : List (List Nat) :=
  ops.foldl (fun acc o => acc ++ [((o.after.toList.filter (Region.binds .any)).flatMap fun e => e.on :: acc.getD e.on [])]) []

/-- The region has the form that the law wants. -/
def rgCheck (ops : Array Oper) (D : List (Option Nat)) (A : List (List Nat)) (mask : List Bool) (len : Nat) : Bool :=
  (D == ops.toList.map (·.dst)) &&
  (ops.toList.zipIdx.all fun (o, i) => o.after.all fun e => !Region.binds .any e || e.on < i) &&
  ((ops.toList.filterMap (·.dst)).all fun d => d < len && mask.getD d false) &&
  ((List.range ops.size).all fun i => (List.range i).all fun j => (D.getD i none).isNone || D.getD i none != D.getD j none) &&
  ((List.range ops.size).all fun i => (A.getD i []).all fun j => ((ancsOf ops.toList).getD i []).contains j)

theorem ancs_listed (os : List Oper) (L : Nat → Prop)
    (hedge : ∀ i o, os[i]? = some o → L i → ∀ e ∈ o.after.toList, Region.binds .any e = true → L e.on) :
    ∀ i, L i → ∀ j ∈ (ancsOf os).getD i [], L j := by
  have key : ∀ (done rest : List Oper) (acc : List (List Nat)), os = done ++ rest → acc.length = done.length →
      (∀ i, L i → ∀ j ∈ acc.getD i [], L j) →
      (∀ i, L i → ∀ j ∈ (rest.foldl (fun acc o => acc ++ [((o.after.toList.filter (Region.binds .any)).flatMap fun e => e.on :: acc.getD e.on [])]) acc).getD i [], L j) := by
    intro done rest
    induction rest generalizing done with
    | nil => intro acc _ _ h; simpa using h
    | cons o rest ih =>
      intro acc hos hlen h
      simp only [List.foldl_cons]
      refine ih (done ++ [o]) _ (by simp [hos]) (by simp [hlen]) ?_
      intro i hi j hj
      rcases Nat.lt_trichotomy i acc.length with hlt | heq | hgt
      · rw [List.getD_eq_getElem?_getD, List.getElem?_append_left hlt, ← List.getD_eq_getElem?_getD] at hj
        exact h i hi j hj
      · subst heq
        rw [List.getD_eq_getElem?_getD, List.getElem?_append_right (Nat.le_refl _)] at hj
        simp only [Nat.sub_self, List.getElem?_cons_zero, Option.getD_some, List.mem_flatMap, List.mem_filter, List.mem_cons] at hj
        obtain ⟨e, ⟨he, hb⟩, hj⟩ := hj
        have hL : L e.on := hedge acc.length o (by rw [hos, hlen]; simp) hi e he hb
        rcases hj with rfl | hj
        · exact hL
        · exact h _ hL j hj
      · rw [List.getD_eq_getElem?_getD, List.getElem?_append_right (by omega)] at hj
        have : ([((o.after.toList.filter (Region.binds .any)).flatMap fun e => e.on :: acc.getD e.on [])] : List (List Nat))[i - acc.length]? = none := by
          rw [List.getElem?_eq_none]; simp; omega
        rw [this] at hj
        simp at hj
  exact key [] os [] rfl rfl (by simp)

theorem ancs_lt (os : List Oper) (hedge : ∀ i o, os[i]? = some o → ∀ e ∈ o.after.toList, Region.binds .any e = true → e.on < i) :
    ∀ i j, j ∈ (ancsOf os).getD i [] → j < i := by
  intro i j hj
  have := ancs_listed os (fun k => k ≤ i) (fun k o hk hL e he hb => by have := hedge k o hk e he hb; omega) i (Nat.le_refl _) j hj
  rcases Nat.lt_or_eq_of_le this with h | rfl
  · exact h
  · exfalso
    have key : ∀ (rest : List Oper) (acc : List (List Nat)) (done : List Oper), os = done ++ rest → acc.length = done.length →
        (∀ k, ∀ m ∈ acc.getD k [], m < k) →
        (∀ k, ∀ m ∈ (rest.foldl (fun acc o => acc ++ [((o.after.toList.filter (Region.binds .any)).flatMap fun e => e.on :: acc.getD e.on [])]) acc).getD k [], m < k) := by
      intro rest
      induction rest with
      | nil => intro acc done _ _ h; simpa using h
      | cons o rest ih =>
        intro acc done hos hlen h
        simp only [List.foldl_cons]
        refine ih _ (done ++ [o]) (by simp [hos]) (by simp [hlen]) ?_
        intro k m hm
        rcases Nat.lt_trichotomy k acc.length with hlt | heq | hgt
        · rw [List.getD_eq_getElem?_getD, List.getElem?_append_left hlt, ← List.getD_eq_getElem?_getD] at hm
          exact h k m hm
        · subst heq
          rw [List.getD_eq_getElem?_getD, List.getElem?_append_right (Nat.le_refl _)] at hm
          simp only [Nat.sub_self, List.getElem?_cons_zero, Option.getD_some, List.mem_flatMap, List.mem_filter, List.mem_cons] at hm
          obtain ⟨e, ⟨he, hb⟩, hm⟩ := hm
          have he2 := hedge acc.length o (by rw [hos, hlen]; simp) e he hb
          rcases hm with rfl | hm
          · exact he2
          · have := h _ m hm; omega
        · rw [List.getD_eq_getElem?_getD, List.getElem?_append_right (by omega)] at hm
          have : ([((o.after.toList.filter (Region.binds .any)).flatMap fun e => e.on :: acc.getD e.on [])] : List (List Nat))[k - acc.length]? = none := by
            rw [List.getElem?_eq_none]; simp; omega
          rw [this] at hm
          simp at hm
    exact absurd (key os [] [] rfl rfl (by simp) j j hj) (Nat.lt_irrefl _)

/-- The frame: what the marked slots hold is y. -/
structure RgInv (ops : Array Oper) (w0 : World) (T : List Value) (ds : List Deferred) (mask : List Bool) (D : List (Option Nat)) (Φ : List StP) (listed : Array Bool) (a : Act) (w : World) : Prop where
  step : Ext w0 w
  frame : ∃ y, a = ⟨(fillL y 0 T mask).toArray, ds⟩ ∧ ∀ j d, listed.getD j false = true → D.getD j none = some d → (Φ.getD j .any).p (y d) w

theorem fill_self (T : List Value) (mask : List Bool) : fillL (fun t => T.getD t undef) 0 T mask = T := by
  apply List.ext_getElem?
  intro i
  rw [fillL_get]
  split
  · simp only [Nat.zero_add]
    cases h : T[i]? with
    | none => rfl
    | some v => simp [List.getD, h]
  · rfl

theorem fill_set (y : Nat → Value) (T : List Value) (mask : List Bool) (d : Nat) (v : Value) (hd : d < T.length) (hm : mask.getD d false = true) :
    (fillL y 0 T mask).set d v = fillL (fun t => if t = d then v else y t) 0 T mask := by
  apply List.ext_getElem?
  intro i
  rw [List.getElem?_set, fillL_get, fillL_get, fillL_length]
  by_cases h : d = i
  · subst h
    rw [if_pos rfl, if_pos hd, if_pos hm]
    simp [List.getElem?_eq_getElem hd]
  · rw [if_neg h]
    have : (fun _ : Value => if 0 + i = d then v else y (0 + i)) = fun _ => y (0 + i) := by funext _; rw [if_neg (by omega)]
    rw [this]

section
variable {P : Program} {ops : Array Oper} {Q : Exit → Act → World → Prop} {w0 : World} {T : List Value} {ds : List Deferred} {mask : List Bool}
  {D : List (Option Nat)} {Φ : List StP} {A : List (List Nat)}

theorem rg_all_listed {listed : Array Bool} (hsz : listed.size = ops.size) (hedge : ∀ (i : Nat) (o : Oper), ops[i]? = some o → ∀ e ∈ o.after.toList, Region.binds .any e = true → e.on < i)
    (hr : Region.ready .any ops listed = []) : ∀ i, i < ops.size → listed.getD i false = true := by
  intro i
  induction i using Nat.strongRecOn with
  | _ i ih =>
    intro hi
    cases hl : listed.getD i false with
    | true => rfl
    | false =>
      exfalso
      have hmem : i ∈ Region.ready .any ops listed := by
        unfold Region.ready
        rw [List.mem_filter]
        refine ⟨List.mem_range.2 hi, ?_⟩
        have h1 : listed.getD i true = false := by
          simp only [Array.getD_eq_getD_getElem?] at hl ⊢
          rw [Array.getElem?_eq_getElem (by omega)] at hl ⊢
          simpa using hl
        have ho : ops[i]? = some ops[i] := Array.getElem?_eq_getElem hi
        rw [h1, ho]
        simp only [Bool.not_false, Bool.true_and, Option.map_some, Option.getD_some]
        rw [Array.all_eq_true']
        intro e he
        by_cases hb : Region.binds .any e = true
        · have hlt := hedge i _ ho e (by simpa using he) hb
          rw [ih e.on hlt (by omega)]; simp
        · simp [hb]
      rw [hr] at hmem
      simp at hmem

theorem rg_any (hcheck : rgCheck ops D A mask T.length = true)
    (hobs : RgObs P ops Q w0 T ds mask D Φ A 0 ops.toList)
    (hend : ∀ y w, Ext w0 w → RgFacts D Φ y w (List.range ops.size) → Q .normal ⟨(fillL y 0 T mask).toArray, ds⟩ w) :
    ∀ (fuel : Nat) (listed : Array Bool) (a : Act) (w : World), listed.size = ops.size → listed.toList.count false ≤ fuel →
      (∀ i o, ops[i]? = some o → listed.getD i false = true → ∀ e ∈ o.after.toList, Region.binds .any e = true → listed.getD e.on false = true) →
      RgInv ops w0 T ds mask D Φ listed a w → wpAny P .any ops Q fuel listed a w := by
  simp only [rgCheck, Bool.and_eq_true] at hcheck
  obtain ⟨⟨⟨⟨hD, hE⟩, hdst⟩, hnd⟩, hA⟩ := hcheck
  have hD : D = ops.toList.map (·.dst) := by simpa using hD
  have hedge : ∀ (i : Nat) (o : Oper), ops[i]? = some o → ∀ e ∈ o.after.toList, Region.binds .any e = true → e.on < i := by
    intro i o ho e he hb
    rw [List.all_eq_true] at hE
    have := hE (o, i) (by rw [List.mem_zipIdx_iff_getElem?]; simpa using ho)
    simp only [Array.all_eq_true', Array.mem_toList_iff] at this he
    have := this e he
    simpa [hb] using this
  have hget : ∀ (i : Nat) (o : Oper), ops[i]? = some o → D.getD i none = o.dst := by
    intro i o ho
    rw [hD]
    simp [List.getD, ho]
  have hdlt : ∀ (i : Nat) (o : Oper) (d : Nat), ops[i]? = some o → o.dst = some d → d < T.length ∧ mask.getD d false = true := by
    intro i o d ho hd
    rw [List.all_eq_true] at hdst
    have := hdst d (List.mem_filterMap.2 ⟨o, by have := Array.mem_of_getElem? ho; simpa using this, hd⟩)
    simpa using this
  have hne : ∀ (i j d : Nat), i < ops.size → j < ops.size → i ≠ j → D.getD i none = some d → D.getD j none ≠ some d := by
    have half : ∀ (i j d : Nat), i < ops.size → j < i → D.getD i none = some d → D.getD j none ≠ some d := by
      intro i j d hi hj h1 h2
      rw [List.all_eq_true] at hnd
      have := hnd i (List.mem_range.2 hi)
      rw [List.all_eq_true] at this
      have := this j (List.mem_range.2 hj)
      rw [h1, h2] at this
      simp at this
    intro i j d hi hj hij h1 h2
    rcases Nat.lt_or_gt_of_ne hij with h | h
    · exact half j i d hj h h2 h1
    · exact half i j d hi h h1 h2
  intro fuel
  induction fuel with
  | zero =>
    intro listed a w hsz hc hcl hinv
    have hall : ∀ i, i < ops.size → listed.getD i false = true := by
      intro i hi
      have h0 : listed.toList.count false = 0 := by omega
      rw [List.count_eq_zero] at h0
      cases hl : listed.getD i false with
      | true => rfl
      | false =>
        exfalso; apply h0
        simp only [Array.getD_eq_getD_getElem?, Array.getElem?_eq_getElem (show i < listed.size by omega), Option.getD_some] at hl
        rw [← hl]; simp
    refine ⟨?_, ?_⟩
    · unfold Region.ready
      rw [List.filter_eq_nil_iff]
      intro i hi
      have := hall i (List.mem_range.1 hi)
      have h1 : listed.getD i true = true := by
        simp only [Array.getD_eq_getD_getElem?] at this ⊢
        rw [Array.getElem?_eq_getElem (by have := List.mem_range.1 hi; omega)] at this ⊢
        simpa using this
      simp [h1]
    · obtain ⟨hs, y, rfl, hf⟩ := hinv
      exact hend y w hs (RgFacts.of fun j hj d hd => hf j d (hall j (List.mem_range.1 hj)) hd)
  | succ fuel ih =>
    intro listed a w hsz hc hcl hinv
    refine ⟨fun hr => ?_, fun i hi => ?_⟩
    · have hall := rg_all_listed hsz hedge hr
      obtain ⟨hs, y, rfl, hf⟩ := hinv
      exact hend y w hs (RgFacts.of fun j hj d hd => hf j d (hall j (List.mem_range.1 hj)) hd)
    · obtain ⟨hs, y, rfl, hf⟩ := hinv
      unfold Region.ready at hi
      rw [List.mem_filter] at hi
      obtain ⟨hi1, hi2⟩ := hi
      have hi1 := List.mem_range.1 hi1
      simp only [Bool.and_eq_true] at hi2
      obtain ⟨hl, hread⟩ := hi2
      have ho : ops[i]? = some ops[i] := Array.getElem?_eq_getElem hi1
      rw [ho] at hread
      simp only [Option.map_some, Option.getD_some] at hread
      have hlf : listed.getD i false = false := by
        simp only [Array.getD_eq_getD_getElem?] at hl ⊢
        rw [Array.getElem?_eq_getElem (by omega)] at hl ⊢
        simpa using hl
      have hlist : ∀ e ∈ (ops[i]).after.toList, Region.binds .any e = true → listed.getD e.on false = true := by
        intro e he hb
        rw [Array.all_eq_true'] at hread
        have := hread e (by simpa using he)
        simpa [hb] using this
      -- the ancestors of i are listed
      have hanc : ∀ j ∈ A.getD i [], listed.getD j false = true := by
        intro j hj
        rw [List.all_eq_true] at hA
        have h1 := hA i (List.mem_range.2 hi1)
        rw [List.all_eq_true] at h1
        have h2 := h1 j hj
        have h2 : j ∈ (ancsOf ops.toList).getD i [] := by simpa using h2
        have h3 := ancs_listed ops.toList (fun k => k = i ∨ listed.getD k false = true)
          (fun k o hk hL e he hb => by
            have hk : ops[k]? = some o := by simpa using hk
            rcases hL with rfl | hL
            · obtain rfl : ops[k] = o := by rw [ho] at hk; exact Option.some.inj hk
              exact .inr (hlist e he hb)
            · exact .inr (hcl k o hk hL e he hb)) i (.inl rfl) j h2
        rcases h3 with rfl | h3
        · -- an ancestor of itself: not so
          exfalso
          have hlt : ∀ i j, j ∈ (ancsOf ops.toList).getD i [] → j < i := by
            intro i0 j0 h0
            exact (ancs_lt ops.toList (fun k o hk e he hb => hedge k o (by simpa using hk) e he hb) i0 j0 h0)
          exact absurd (hlt _ _ h2) (Nat.lt_irrefl _)
        · exact h3
      have hK : ∀ v w', Ext w w' → (Φ.getD i .any).p v w' →
          wpAny P .any ops Q fuel (listed.setIfInBounds i true) ((⟨(fillL y 0 T mask).toArray, ds⟩ : Act).put ops[i].dst v) w' := by
        intro v w' hs' hv
        refine ih _ _ _ (by simpa using hsz) ?_ ?_ ?_
        · have h1 : i < listed.toList.length := by simpa using (show i < listed.size by omega)
          rw [Array.toList_setIfInBounds, List.count_set h1]
          have h2 : listed.toList[i] = false := by
            simp only [Array.getD_eq_getD_getElem?, Array.getElem?_eq_getElem (show i < listed.size by omega), Option.getD_some] at hlf
            simpa using hlf
          have h3 : 0 < listed.toList.count false := List.count_pos_iff.2 (h2 ▸ List.getElem_mem _)
          rw [h2]; simp only [beq_self_eq_true, if_true, Bool.true_eq_false, if_false, (by decide : ((true : Bool) == false) = false), Bool.false_eq_true]; omega
        · intro k o hk hL e he hb
          have hset : ∀ m, listed.getD m false = true → (listed.setIfInBounds i true).getD m false = true := by
            intro m hm
            simp only [Array.getD_eq_getD_getElem?, Array.getElem?_setIfInBounds] at hm ⊢
            split
            · split
              · rfl
              · rename_i h1 h2; omega
            · exact hm
          by_cases hki : k = i
          · subst hki
            obtain rfl : ops[k] = o := by rw [ho] at hk; exact Option.some.inj hk
            exact hset _ (hlist e he hb)
          · have : listed.getD k false = true := by
              simp only [Array.getD_eq_getD_getElem?, Array.getElem?_setIfInBounds] at hL ⊢
              rw [if_neg (fun h => hki h.symm)] at hL
              exact hL
            exact hset _ (hcl k o hk this e he hb)
        · refine ⟨Ext.trans hs hs', ?_⟩
          cases hd : ops[i].dst with
          | none =>
            refine ⟨y, rfl, fun j d hj hjd => ?_⟩
            have hji : j ≠ i := by rintro rfl; rw [hget j _ ho, hd] at hjd; cases hjd
            have : listed.getD j false = true := by
              simp only [Array.getD_eq_getD_getElem?, Array.getElem?_setIfInBounds] at hj ⊢
              rw [if_neg (fun h => hji h.symm)] at hj
              exact hj
            exact (Φ.getD j .any).ext _ _ _ hs' (hf j d this hjd)
          | some e =>
            obtain ⟨he1, he2⟩ := hdlt i _ e ho hd
            refine ⟨fun t => if t = e then v else y t, ?_, fun j d hj hjd => ?_⟩
            · simp only [Act.put]
              rw [← fill_set y T mask e v he1 he2]
              simp
            · by_cases hji : j = i
              · subst hji
                have : d = e := by rw [hget j _ ho, hd] at hjd; exact (Option.some.inj hjd).symm
                subst this
                simp only [if_true]
                exact hv
              · have hL : listed.getD j false = true := by
                  simp only [Array.getD_eq_getD_getElem?, Array.getElem?_setIfInBounds] at hj ⊢
                  rw [if_neg (fun h => hji h.symm)] at hj
                  exact hj
                have hjlt : j < ops.size := by
                  rcases Nat.lt_or_ge j ops.size with h | h
                  · exact h
                  · rw [hD, List.getD_eq_getElem?_getD, List.getElem?_eq_none (by simpa using h)] at hjd
                    simp at hjd
                have hde : d ≠ e := by
                  rintro rfl
                  exact hne j i d hjlt hi1 hji hjd (by rw [hget i _ ho, hd])
                simp only [if_neg hde]
                exact (Φ.getD j .any).ext _ _ _ hs' (hf j d hL hjd)
      have hob := hobs.at_ i ops[i] (by simpa using ho) y w hs (by
        rw [Nat.zero_add]
        exact RgFacts.of fun j hj d hd => hf j d (hanc j hj) hd) _ (by rw [Nat.zero_add]; exact hK)
      unfold wpOp
      rw [ho]
      simp only []
      split
      · rename_i hw
        rw [if_pos hw] at hob
        exact .inl hob
      · rename_i hw
        rw [if_neg hw] at hob
        exact hob

theorem rg_yes {c : Bool} {A B : Prop} (h : c = true) (hA : A) : if c = true then A else B := by rw [if_pos h]; exact hA
theorem rg_no {c : Bool} {A B : Prop} (h : c = false) (hB : B) : if c = true then A else B := by rw [if_neg (by simp [h])]; exact hB

/-- A drawn region, each operation shown once. -/
theorem wp_region_rg {id : Nat} {w : World} (hm : P.follows .mixedOrders = true) (mask : List Bool) (D : List (Option Nat)) (A : List (List Nat)) (Φ : List StP)
    (hcheck : rgCheck ops D A mask T.length = true)
    (hobs : RgObs P ops Q w T ds mask D Φ A 0 ops.toList)
    (hend : ∀ y w', Ext w w' → RgFacts D Φ y w' (List.range ops.size) → Q .normal ⟨(fillL y 0 T mask).toArray, ds⟩ w') :
    (Code.region id ops true).wp P Q ⟨T.toArray, ds⟩ w :=
  wp_region_any hm (rg_any hcheck hobs hend _ _ _ _ (by simp) (by simp) (by
    intro i o _ h
    simp [Array.getD, Array.getElem?_replicate] at h) ⟨Ext.drew w, _, by rw [fill_self], by intro j d h; simp [Array.getD, Array.getElem?_replicate] at h⟩)
end
end Go.Proofs.Ytgipchipcoaajaa
