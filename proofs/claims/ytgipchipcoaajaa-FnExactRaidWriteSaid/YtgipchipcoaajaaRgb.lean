/- The law on drawn regions with a budget: a reader of a code turns one block. No condition. -/
import Derived.Test.YtgipchipcoaajaaRg
namespace Go.Proofs.Ytgipchipcoaajaa
set_option linter.unusedVariables false
set_option linter.unusedSimpArgs false
set_option linter.unnecessarySimpa false
open Go.RowKit

/-- What the operations that are listed may have spent. -/
def spent : List Nat → List Bool → Nat
  | x :: xs, l :: ls => (if l then x else 0) + spent xs ls
  | _, _ => 0
theorem spent_le : ∀ (b : List Nat) (l : List Bool), spent b l ≤ b.sum
  | [], _ => by simp [spent]
  | _ :: _, [] => by simp [spent]
  | x :: xs, l :: ls => by have := spent_le xs ls; cases l <;> simp [spent] <;> omega
theorem spent_none : ∀ (b : List Nat) (n : Nat), spent b (List.replicate n false) = 0
  | [], _ => by simp [spent]
  | _ :: _, 0 => by simp [spent]
  | x :: xs, n + 1 => by simp [List.replicate_succ, spent, spent_none xs n]
theorem spent_set : ∀ (b : List Nat) (l : List Bool) (i : Nat), l[i]?.getD false = false → i < l.length → spent b (l.set i true) = spent b l + b.getD i 0
  | [], l, i, _, _ => by cases h : l.set i true <;> simp [spent]
  | _ :: _, [], i, _, h => by simp at h
  | x :: xs, l :: ls, 0, h, _ => by simp at h; subst h; simp [spent]; omega
  | x :: xs, l :: ls, i + 1, h, hi => by
    have := spent_set xs ls i (by simpa using h) (by simpa using hi)
    simp only [List.set_cons_succ, spent, this, List.getD_cons_succ]
    omega

/-- What is known of a value, in this world and in each later one. -/
structure BStP (S : World → World → Prop) where
  p : Value → World → Prop
  ext : ∀ v w w', S w w' → p v w → p v w'
/-- It is this value. -/
def BStP.is {S : World → World → Prop} (V : Value) : BStP S := ⟨fun v _ => v = V, fun _ _ _ _ h => h⟩
def BStP.any {S : World → World → Prop} : BStP S := ⟨fun _ _ => True, fun _ _ _ _ h => h⟩

/-- What is known of the operations j of a list: y holds the values. -/
def BFacts {S : World → World → Prop} (D : List (Option Nat)) (Φ : List (BStP S)) (y : Nat → Value) (w : World) : List Nat → Prop
  | [] => True
  | j :: js => (match D.getD j none with
      | some d => (Φ.getD j .any).p (y d) w
      | none => (Φ.getD j .any).p undef w) ∧ BFacts D Φ y w js

theorem BFacts.of {S : World → World → Prop} {D : List (Option Nat)} {Φ : List (BStP S)} {y : Nat → Value} {w : World} :
    ∀ {js : List Nat}, (∀ j ∈ js, ∀ d, D.getD j none = some d → (Φ.getD j .any).p (y d) w) → (∀ j ∈ js, D.getD j none = none → (Φ.getD j .any).p undef w) → BFacts D Φ y w js
  | [], _, _ => trivial
  | j :: js, h, h' => by
    refine ⟨?_, BFacts.of (fun k hk => h k (List.mem_cons_of_mem _ hk)) fun k hk => h' k (List.mem_cons_of_mem _ hk)⟩
    have := h j (List.mem_cons_self ..)
    split
    · rename_i d hd; exact this d hd
    · rename_i hd; exact h' j (List.mem_cons_self ..) hd

section
variable (P : Program) (ops : Array Oper) (Q : Exit → Act → World → Prop) (w0 : World) (T : List Value) (ds : List Deferred) (mask : List Bool)
  (D : List (Option Nat)) {S : World → World → Prop} (Φ : List (BStP S)) (J : World → Nat → Prop) (b : List Nat) (A : List (List Nat))

/-- What is to be shown of one operation. -/
def BOb (i : Nat) (o : Oper) : Prop :=
  ∀ y w k, S w0 w → J w k → k + b.getD i 0 ≤ b.sum → BFacts D Φ y w (A.getD i []) →
    ∀ K : Act → World → Prop, (∀ v w', S w w' → J w' (k + b.getD i 0) → (Φ.getD i .any).p (bif o.dst.isSome then v else undef) w' → K ((⟨(fillL y 0 T mask).toArray, ds⟩ : Act).put o.dst v) w') →
      if Region.wanted o (yielded ops (fillL y 0 T mask).toArray) then o.wp P ⟨(fillL y 0 T mask).toArray, ds⟩ w K Q
      else K ((⟨(fillL y 0 T mask).toArray, ds⟩ : Act).put o.dst undef) w

def BObs : Nat → List Oper → Prop
  | _, [] => True
  | i, o :: os => BOb P ops Q w0 T ds mask D Φ J b A i o ∧ BObs (i + 1) os
end

theorem BObs.at_ {P : Program} {ops : Array Oper} {Q : Exit → Act → World → Prop} {w0 : World} {T : List Value} {ds : List Deferred} {mask : List Bool}
    {D : List (Option Nat)} {S : World → World → Prop} {Φ : List (BStP S)} {J : World → Nat → Prop} {b : List Nat} {A : List (List Nat)} :
    ∀ {k : Nat} {os : List Oper}, BObs P ops Q w0 T ds mask D Φ J b A k os → ∀ i o, os[i]? = some o → BOb P ops Q w0 T ds mask D Φ J b A (k + i) o
  | _, [], _, i, o, h => by simp at h
  | k, x :: xs, H, 0, o, h => by
    simp at h; subst h; exact H.1
  | k, x :: xs, H, i + 1, o, h => by
    have := BObs.at_ H.2 i o (by simpa using h)
    rwa [show k + 1 + i = k + (i + 1) by omega] at this

/-- The frame: what the marked slots hold is y. -/
structure BInv (ops : Array Oper) (w0 : World) (T : List Value) (ds : List Deferred) (mask : List Bool) (D : List (Option Nat)) {S : World → World → Prop} (Φ : List (BStP S)) (J : World → Nat → Prop) (b : List Nat) (listed : Array Bool) (a : Act) (w : World) : Prop where
  step : S w0 w
  left : J w (spent b listed.toList)
  frame : ∃ y, a = ⟨(fillL y 0 T mask).toArray, ds⟩ ∧ ∀ j d, listed.getD j false = true → D.getD j none = some d → (Φ.getD j .any).p (y d) w
  side : ∀ j, listed.getD j false = true → D.getD j none = none → (Φ.getD j .any).p undef w


section
variable {P : Program} {ops : Array Oper} {Q : Exit → Act → World → Prop} {w0 : World} {T : List Value} {ds : List Deferred} {mask : List Bool}
  {D : List (Option Nat)} {S : World → World → Prop} {Φ : List (BStP S)} {J : World → Nat → Prop} {b : List Nat} {A : List (List Nat)}

theorem brg_any (hcheck : rgCheck ops D A mask T.length = true)
    (hobs : BObs P ops Q w0 T ds mask D Φ J b A 0 ops.toList)
    (hSr : ∀ a, S a a) (hSt : ∀ {a b c}, S a b → S b c → S a c) (hJ : ∀ w k k', k ≤ k' → J w k → J w k')
    (hend : ∀ y w, S w0 w → J w b.sum → BFacts D Φ y w (List.range ops.size) → Q .normal ⟨(fillL y 0 T mask).toArray, ds⟩ w) :
    ∀ (fuel : Nat) (listed : Array Bool) (a : Act) (w : World), listed.size = ops.size → listed.toList.count false ≤ fuel →
      (∀ i o, ops[i]? = some o → listed.getD i false = true → ∀ e ∈ o.after.toList, Region.binds .any e = true → listed.getD e.on false = true) →
      BInv ops w0 T ds mask D Φ J b listed a w → wpAny P .any ops Q fuel listed a w := by
  simp only [rgCheck, Bool.and_eq_true] at hcheck
  obtain ⟨⟨⟨⟨hD, hE⟩, hdst⟩, hnd⟩, hA⟩ := hcheck
  have hD : D = ops.toList.map (·.dst) := by simpa using hD
  have hedge : ∀ (i : Nat) (o : Oper), ops[i]? = some o → ∀ e ∈ o.after.toList, Region.binds .any e = true → e.on < i := by
    intro i o ho e he hb
    rw [List.all_eq_true] at hE
    have := hE (o, i) (by rw [List.mem_zipIdx_iff_getElem?]; simpa using ho)
    simp only [Array.all_eq_true', Array.mem_toList_iff] at this he
    have := this e he
    simpa [hb] using this
  have hget : ∀ (i : Nat) (o : Oper), ops[i]? = some o → D.getD i none = o.dst := by
    intro i o ho
    rw [hD]
    simp [List.getD, ho]
  have hdlt : ∀ (i : Nat) (o : Oper) (d : Nat), ops[i]? = some o → o.dst = some d → d < T.length ∧ mask.getD d false = true := by
    intro i o d ho hd
    rw [List.all_eq_true] at hdst
    have := hdst d (List.mem_filterMap.2 ⟨o, by have := Array.mem_of_getElem? ho; simpa using this, hd⟩)
    simpa using this
  have hne : ∀ (i j d : Nat), i < ops.size → j < ops.size → i ≠ j → D.getD i none = some d → D.getD j none ≠ some d := by
    have half : ∀ (i j d : Nat), i < ops.size → j < i → D.getD i none = some d → D.getD j none ≠ some d := by
      intro i j d hi hj h1 h2
      rw [List.all_eq_true] at hnd
      have := hnd i (List.mem_range.2 hi)
      rw [List.all_eq_true] at this
      have := this j (List.mem_range.2 hj)
      rw [h1, h2] at this
      simp at this
    intro i j d hi hj hij h1 h2
    rcases Nat.lt_or_gt_of_ne hij with h | h
    · exact half j i d hj h h2 h1
    · exact half i j d hi h h1 h2
  intro fuel
  induction fuel with
  | zero =>
    intro listed a w hsz hc hcl hinv
    have hall : ∀ i, i < ops.size → listed.getD i false = true := by
      intro i hi
      have h0 : listed.toList.count false = 0 := by omega
      rw [List.count_eq_zero] at h0
      cases hl : listed.getD i false with
      | true => rfl
      | false =>
        exfalso; apply h0
        simp only [Array.getD_eq_getD_getElem?, Array.getElem?_eq_getElem (show i < listed.size by omega), Option.getD_some] at hl
        rw [← hl]; simp
    refine ⟨?_, ?_⟩
    · unfold Region.ready
      rw [List.filter_eq_nil_iff]
      intro i hi
      have := hall i (List.mem_range.1 hi)
      have h1 : listed.getD i true = true := by
        simp only [Array.getD_eq_getD_getElem?] at this ⊢
        rw [Array.getElem?_eq_getElem (by have := List.mem_range.1 hi; omega)] at this ⊢
        simpa using this
      simp [h1]
    · obtain ⟨hs, hj, ⟨y, rfl, hf⟩, hsd⟩ := hinv
      exact hend y w hs (hJ _ _ _ (spent_le b _) hj) (BFacts.of (fun j hj d hd => hf j d (hall j (List.mem_range.1 hj)) hd) fun j hj hd => hsd j (hall j (List.mem_range.1 hj)) hd)
  | succ fuel ih =>
    intro listed a w hsz hc hcl hinv
    refine ⟨fun hr => ?_, fun i hi => ?_⟩
    · have hall := rg_all_listed hsz hedge hr
      obtain ⟨hs, hj, ⟨y, rfl, hf⟩, hsd⟩ := hinv
      exact hend y w hs (hJ _ _ _ (spent_le b _) hj) (BFacts.of (fun j hj d hd => hf j d (hall j (List.mem_range.1 hj)) hd) fun j hj hd => hsd j (hall j (List.mem_range.1 hj)) hd)
    · obtain ⟨hs, hj, ⟨y, rfl, hf⟩, hsd⟩ := hinv
      unfold Region.ready at hi
      rw [List.mem_filter] at hi
      obtain ⟨hi1, hi2⟩ := hi
      have hi1 := List.mem_range.1 hi1
      simp only [Bool.and_eq_true] at hi2
      obtain ⟨hl, hread⟩ := hi2
      have ho : ops[i]? = some ops[i] := Array.getElem?_eq_getElem hi1
      rw [ho] at hread
      simp only [Option.map_some, Option.getD_some] at hread
      have hlf : listed.getD i false = false := by
        simp only [Array.getD_eq_getD_getElem?] at hl ⊢
        rw [Array.getElem?_eq_getElem (by omega)] at hl ⊢
        simpa using hl
      have hlist : ∀ e ∈ (ops[i]).after.toList, Region.binds .any e = true → listed.getD e.on false = true := by
        intro e he hb
        rw [Array.all_eq_true'] at hread
        have := hread e (by simpa using he)
        simpa [hb] using this
      -- the ancestors of i are listed
      have hanc : ∀ j ∈ A.getD i [], listed.getD j false = true := by
        intro j hj
        rw [List.all_eq_true] at hA
        have h1 := hA i (List.mem_range.2 hi1)
        rw [List.all_eq_true] at h1
        have h2 := h1 j hj
        have h2 : j ∈ (ancsOf ops.toList).getD i [] := by simpa using h2
        have h3 := ancs_listed ops.toList (fun k => k = i ∨ listed.getD k false = true)
          (fun k o hk hL e he hb => by
            have hk : ops[k]? = some o := by simpa using hk
            rcases hL with rfl | hL
            · obtain rfl : ops[k] = o := by rw [ho] at hk; exact Option.some.inj hk
              exact .inr (hlist e he hb)
            · exact .inr (hcl k o hk hL e he hb)) i (.inl rfl) j h2
        rcases h3 with rfl | h3
        · -- an ancestor of itself: not so
          exfalso
          have hlt : ∀ i j, j ∈ (ancsOf ops.toList).getD i [] → j < i := by
            intro i0 j0 h0
            exact (ancs_lt ops.toList (fun k o hk e he hb => hedge k o (by simpa using hk) e he hb) i0 j0 h0)
          exact absurd (hlt _ _ h2) (Nat.lt_irrefl _)
        · exact h3
      have hsp : spent b (listed.setIfInBounds i true).toList = spent b listed.toList + b.getD i 0 := by
        rw [Array.toList_setIfInBounds]
        exact spent_set b listed.toList i (by simpa [Array.getD_eq_getD_getElem?, Array.getElem?_eq_getElem (show i < listed.size by omega)] using hlf) (by simpa using (show i < listed.size by omega))
      have hK : ∀ v w', S w w' → J w' (spent b listed.toList + b.getD i 0) → (Φ.getD i .any).p (bif ops[i].dst.isSome then v else undef) w' →
          wpAny P .any ops Q fuel (listed.setIfInBounds i true) ((⟨(fillL y 0 T mask).toArray, ds⟩ : Act).put ops[i].dst v) w' := by
        intro v w' hs' hj' hv
        refine ih _ _ _ (by simpa using hsz) ?_ ?_ ?_
        · have h1 : i < listed.toList.length := by simpa using (show i < listed.size by omega)
          rw [Array.toList_setIfInBounds, List.count_set h1]
          have h2 : listed.toList[i] = false := by
            simp only [Array.getD_eq_getD_getElem?, Array.getElem?_eq_getElem (show i < listed.size by omega), Option.getD_some] at hlf
            simpa using hlf
          have h3 : 0 < listed.toList.count false := List.count_pos_iff.2 (h2 ▸ List.getElem_mem _)
          rw [h2]; simp only [beq_self_eq_true, if_true, Bool.true_eq_false, if_false, (by decide : ((true : Bool) == false) = false), Bool.false_eq_true]; omega
        · intro k o hk hL e he hb
          have hset : ∀ m, listed.getD m false = true → (listed.setIfInBounds i true).getD m false = true := by
            intro m hm
            simp only [Array.getD_eq_getD_getElem?, Array.getElem?_setIfInBounds] at hm ⊢
            split
            · split
              · rfl
              · rename_i h1 h2; omega
            · exact hm
          by_cases hki : k = i
          · subst hki
            obtain rfl : ops[k] = o := by rw [ho] at hk; exact Option.some.inj hk
            exact hset _ (hlist e he hb)
          · have : listed.getD k false = true := by
              simp only [Array.getD_eq_getD_getElem?, Array.getElem?_setIfInBounds] at hL ⊢
              rw [if_neg (fun h => hki h.symm)] at hL
              exact hL
            exact hset _ (hcl k o hk this e he hb)
        · refine ⟨hSt hs hs', by rw [hsp]; exact hj', ?_, fun j hj hjd => ?_⟩
          rotate_left
          · by_cases hji : j = i
            · subst hji
              rw [hget j _ ho] at hjd
              rw [hjd] at hv
              exact hv
            · have hL : listed.getD j false = true := by
                simp only [Array.getD_eq_getD_getElem?, Array.getElem?_setIfInBounds] at hj ⊢
                rw [if_neg (fun h => hji h.symm)] at hj
                exact hj
              exact (Φ.getD j .any).ext _ _ _ hs' (hsd j hL hjd)
          cases hd : ops[i].dst with
          | none =>
            refine ⟨y, rfl, fun j d hj hjd => ?_⟩
            have hji : j ≠ i := by rintro rfl; rw [hget j _ ho, hd] at hjd; cases hjd
            have : listed.getD j false = true := by
              simp only [Array.getD_eq_getD_getElem?, Array.getElem?_setIfInBounds] at hj ⊢
              rw [if_neg (fun h => hji h.symm)] at hj
              exact hj
            exact (Φ.getD j .any).ext _ _ _ hs' (hf j d this hjd)
          | some e =>
            obtain ⟨he1, he2⟩ := hdlt i _ e ho hd
            refine ⟨fun t => if t = e then v else y t, ?_, fun j d hj hjd => ?_⟩
            · simp only [Act.put]
              rw [← fill_set y T mask e v he1 he2]
              simp
            · by_cases hji : j = i
              · subst hji
                have : d = e := by rw [hget j _ ho, hd] at hjd; exact (Option.some.inj hjd).symm
                subst this
                simp only [if_true]
                rw [hd] at hv
                exact hv
              · have hL : listed.getD j false = true := by
                  simp only [Array.getD_eq_getD_getElem?, Array.getElem?_setIfInBounds] at hj ⊢
                  rw [if_neg (fun h => hji h.symm)] at hj
                  exact hj
                have hjlt : j < ops.size := by
                  rcases Nat.lt_or_ge j ops.size with h | h
                  · exact h
                  · rw [hD, List.getD_eq_getElem?_getD, List.getElem?_eq_none (by simpa using h)] at hjd
                    simp at hjd
                have hde : d ≠ e := by
                  rintro rfl
                  exact hne j i d hjlt hi1 hji hjd (by rw [hget i _ ho, hd])
                simp only [if_neg hde]
                exact (Φ.getD j .any).ext _ _ _ hs' (hf j d hL hjd)
      have hob := hobs.at_ i ops[i] (by simpa using ho) y w (spent b listed.toList) hs hj (by rw [Nat.zero_add, ← hsp]; exact spent_le b _) (by
        rw [Nat.zero_add]
        exact BFacts.of (fun j hj d hd => hf j d (hanc j hj) hd) fun j hj hd => hsd j (hanc j hj) hd) _ (by rw [Nat.zero_add]; exact hK)
      unfold wpOp
      rw [ho]
      simp only []
      split
      · rename_i hw
        rw [if_pos hw] at hob
        exact .inl hob
      · rename_i hw
        rw [if_neg hw] at hob
        exact hob

/-- A drawn region, each operation shown once. -/
theorem wp_region_rgb {id : Nat} {w : World} (S : World → World → Prop) (J : World → Nat → Prop) (b : List Nat) (hm : P.follows .mixedOrders = true) (mask : List Bool) (D : List (Option Nat)) (A : List (List Nat)) (Φ : List (BStP S))
    (hcheck : rgCheck ops D A mask T.length = true)
    (hobs : BObs P ops Q w T ds mask D Φ J b A 0 ops.toList)
    (hSr : ∀ a, S a a) (hSt : ∀ {a b c}, S a b → S b c → S a c) (hJ : ∀ w k k', k ≤ k' → J w k → J w k') (hdrew : S w w.drew) (hj0 : J w.drew 0)
    (hend : ∀ y w', S w w' → J w' b.sum → BFacts D Φ y w' (List.range ops.size) → Q .normal ⟨(fillL y 0 T mask).toArray, ds⟩ w') :
    (Code.region id ops true).wp P Q ⟨T.toArray, ds⟩ w :=
  wp_region_any hm (brg_any hcheck hobs hSr hSt hJ hend _ _ _ _ (by simp) (by simp) (by
    intro i o _ h
    simp [Array.getD, Array.getElem?_replicate] at h) ⟨hdrew, by rw [show spent b (Array.replicate ops.size false).toList = 0 by simp [spent_none]]; exact hj0, ⟨_, by rw [fill_self], by intro j d h; simp [Array.getD, Array.getElem?_replicate] at h⟩, by intro j h; simp [Array.getD, Array.getElem?_replicate] at h⟩)
end
end Go.Proofs.Ytgipchipcoaajaa
