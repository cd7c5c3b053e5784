/- The law on drawn regions, its third form: operations that turn what an earlier one made. No condition. -/
import Derived.Test.YtgipchipcoaajaaRgb
namespace Go.Proofs.Ytgipchipcoaajaa
set_option linter.unusedVariables false
set_option linter.unusedSimpArgs false
set_option linter.unnecessarySimpa false
open Go.RowKit

/-- What is known of a value: N: what most operations do, S: what those do that turn memory; a soft fact stands N alone. -/
structure MStP (S N : World → World → Prop) where
  p : Value → World → Prop
  hd : Bool
  ext : ∀ v w w', N w w' → p v w → p v w'
  own : hd = true → ∀ v w w', S w w' → p v w → p v w'
/-- It is this value. -/
def MStP.is {S N : World → World → Prop} (V : Value) : MStP S N := ⟨fun v _ => v = V, true, fun _ _ _ _ h => h, fun _ _ _ _ _ h => h⟩
def MStP.any {S N : World → World → Prop} : MStP S N := ⟨fun _ _ => True, true, fun _ _ _ _ h => h, fun _ _ _ _ _ h => h⟩

/-- What is known of the operations j of a list: y holds the values. -/
def MFacts {S N : World → World → Prop} (D : List (Option Nat)) (Φ : List (MStP S N)) (y : Nat → Value) (w : World) : List Nat → Prop
  | [] => True
  | j :: js => (match D.getD j none with
      | some d => (Φ.getD j .any).p (y d) w
      | none => (Φ.getD j .any).p undef w) ∧ MFacts D Φ y w js

theorem MFacts.of {S N : World → World → Prop} {D : List (Option Nat)} {Φ : List (MStP S N)} {y : Nat → Value} {w : World} :
    ∀ {js : List Nat}, (∀ j ∈ js, ∀ d, D.getD j none = some d → (Φ.getD j .any).p (y d) w) → (∀ j ∈ js, D.getD j none = none → (Φ.getD j .any).p undef w) → MFacts D Φ y w js
  | [], _, _ => trivial
  | j :: js, h, h' => by
    refine ⟨?_, MFacts.of (fun k hk => h k (List.mem_cons_of_mem _ hk)) fun k hk => h' k (List.mem_cons_of_mem _ hk)⟩
    have := h j (List.mem_cons_self ..)
    split
    · rename_i d hd; exact this d hd
    · rename_i hd; exact h' j (List.mem_cons_self ..) hd

section
variable (P : Program) (ops : Array Oper) (Q : Exit → Act → World → Prop) (w0 : World) (T : List Value) (ds : List Deferred) (mask : List Bool)
  (D : List (Option Nat)) {S N : World → World → Prop} (Φ : List (MStP S N)) (J : World → Nat → Prop) (b : List Nat) (A : List (List Nat)) (M : List Bool)

/-- What is to be shown of one operation. -/
def MOb (i : Nat) (o : Oper) : Prop :=
  ∀ y w k, S w0 w → J w k → k + b.getD i 0 ≤ b.sum → MFacts D Φ y w (A.getD i []) →
    ∀ K : Act → World → Prop, (∀ v w', (bif M.getD i false then S w w' else N w w') → J w' (k + b.getD i 0) → (Φ.getD i .any).p (bif o.dst.isSome then v else undef) w' → K ((⟨(fillL y 0 T mask).toArray, ds⟩ : Act).put o.dst v) w') →
      if Region.wanted o (yielded ops (fillL y 0 T mask).toArray) then o.wp P ⟨(fillL y 0 T mask).toArray, ds⟩ w K Q
      else K ((⟨(fillL y 0 T mask).toArray, ds⟩ : Act).put o.dst undef) w

def MObs : Nat → List Oper → Prop
  | _, [] => True
  | i, o :: os => MOb P ops Q w0 T ds mask D Φ J b A M i o ∧ MObs (i + 1) os
end

theorem MObs.at_ {P : Program} {ops : Array Oper} {Q : Exit → Act → World → Prop} {w0 : World} {T : List Value} {ds : List Deferred} {mask : List Bool}
    {D : List (Option Nat)} {S N : World → World → Prop} {Φ : List (MStP S N)} {J : World → Nat → Prop} {b : List Nat} {A : List (List Nat)} {M : List Bool} :
    ∀ {k : Nat} {os : List Oper}, MObs P ops Q w0 T ds mask D Φ J b A M k os → ∀ i o, os[i]? = some o → MOb P ops Q w0 T ds mask D Φ J b A M (k + i) o
  | _, [], _, i, o, h => by simp at h
  | k, x :: xs, H, 0, o, h => by
    simp at h; subst h; exact H.1
  | k, x :: xs, H, i + 1, o, h => by
    have := MObs.at_ H.2 i o (by simpa using h)
    rwa [show k + 1 + i = k + (i + 1) by omega] at this

/-- Of the operation j something is still to be known. -/
def liveOp (ops : Array Oper) (A : List (List Nat)) (Fin : List Nat) (listed : Array Bool) (j : Nat) : Prop := j ∈ Fin ∨ ∃ k, k < ops.size ∧ j ∈ A.getD k [] ∧ listed.getD k false = false
/-- No soft fact that is still wanted is turned by another operation. -/
def rgmCheck (ops : Array Oper) (A : List (List Nat)) (M H : List Bool) (Fin : List Nat) : Bool :=
  (List.range ops.size).all fun i => !M.getD i false || (List.range ops.size).all fun j => j == i || H.getD j true || ((ancsOf ops.toList).getD j []).contains i ||
    (!Fin.contains j && (List.range ops.size).all fun k => !(A.getD k []).contains j || k == i || ((ancsOf ops.toList).getD i []).contains k)
/-- The frame: what the marked slots hold is y. -/
structure MInv (ops : Array Oper) (w0 : World) (T : List Value) (ds : List Deferred) (mask : List Bool) (D : List (Option Nat)) {S N : World → World → Prop} (Φ : List (MStP S N)) (J : World → Nat → Prop) (b : List Nat) (A : List (List Nat)) (Fin : List Nat) (listed : Array Bool) (a : Act) (w : World) : Prop where
  step : S w0 w
  left : J w (spent b listed.toList)
  frame : ∃ y, a = ⟨(fillL y 0 T mask).toArray, ds⟩ ∧ ∀ j d, listed.getD j false = true → liveOp ops A Fin listed j → D.getD j none = some d → (Φ.getD j .any).p (y d) w
  side : ∀ j, listed.getD j false = true → liveOp ops A Fin listed j → D.getD j none = none → (Φ.getD j .any).p undef w


section
variable {P : Program} {ops : Array Oper} {Q : Exit → Act → World → Prop} {w0 : World} {T : List Value} {ds : List Deferred} {mask : List Bool}
  {D : List (Option Nat)} {S N : World → World → Prop} {Φ : List (MStP S N)} {J : World → Nat → Prop} {b : List Nat} {A : List (List Nat)} {M H : List Bool} {Fin : List Nat}

theorem mrg_any (hcheck : rgCheck ops D A mask T.length = true) (hmc : rgmCheck ops A M H Fin = true) (hFin : ∀ j ∈ Fin, j < ops.size) (hH : Φ.map MStP.hd = H)
    (hobs : MObs P ops Q w0 T ds mask D Φ J b A M 0 ops.toList)
    (hNS : ∀ a b, N a b → S a b) (hSt : ∀ {a b c}, S a b → S b c → S a c) (hJ : ∀ w k k', k ≤ k' → J w k → J w k')
    (hend : ∀ y w, S w0 w → J w b.sum → MFacts D Φ y w Fin → Q .normal ⟨(fillL y 0 T mask).toArray, ds⟩ w) :
    ∀ (fuel : Nat) (listed : Array Bool) (a : Act) (w : World), listed.size = ops.size → listed.toList.count false ≤ fuel →
      (∀ i o, ops[i]? = some o → listed.getD i false = true → ∀ e ∈ o.after.toList, Region.binds .any e = true → listed.getD e.on false = true) →
      MInv ops w0 T ds mask D Φ J b A Fin listed a w → wpAny P .any ops Q fuel listed a w := by
  simp only [rgCheck, Bool.and_eq_true] at hcheck
  obtain ⟨⟨⟨⟨hD, hE⟩, hdst⟩, hnd⟩, hA⟩ := hcheck
  have hD : D = ops.toList.map (·.dst) := by simpa using hD
  have hedge : ∀ (i : Nat) (o : Oper), ops[i]? = some o → ∀ e ∈ o.after.toList, Region.binds .any e = true → e.on < i := by
    intro i o ho e he hb
    rw [List.all_eq_true] at hE
    have := hE (o, i) (by rw [List.mem_zipIdx_iff_getElem?]; simpa using ho)
    simp only [Array.all_eq_true', Array.mem_toList_iff] at this he
    have := this e he
    simpa [hb] using this
  have hget : ∀ (i : Nat) (o : Oper), ops[i]? = some o → D.getD i none = o.dst := by
    intro i o ho
    rw [hD]
    simp [List.getD, ho]
  have hdlt : ∀ (i : Nat) (o : Oper) (d : Nat), ops[i]? = some o → o.dst = some d → d < T.length ∧ mask.getD d false = true := by
    intro i o d ho hd
    rw [List.all_eq_true] at hdst
    have := hdst d (List.mem_filterMap.2 ⟨o, by have := Array.mem_of_getElem? ho; simpa using this, hd⟩)
    simpa using this
  have hne : ∀ (i j d : Nat), i < ops.size → j < ops.size → i ≠ j → D.getD i none = some d → D.getD j none ≠ some d := by
    have half : ∀ (i j d : Nat), i < ops.size → j < i → D.getD i none = some d → D.getD j none ≠ some d := by
      intro i j d hi hj h1 h2
      rw [List.all_eq_true] at hnd
      have := hnd i (List.mem_range.2 hi)
      rw [List.all_eq_true] at this
      have := this j (List.mem_range.2 hj)
      rw [h1, h2] at this
      simp at this
    intro i j d hi hj hij h1 h2
    rcases Nat.lt_or_gt_of_ne hij with h | h
    · exact half j i d hj h h2 h1
    · exact half i j d hi h h1 h2
  intro fuel
  induction fuel with
  | zero =>
    intro listed a w hsz hc hcl hinv
    have hall : ∀ i, i < ops.size → listed.getD i false = true := by
      intro i hi
      have h0 : listed.toList.count false = 0 := by omega
      rw [List.count_eq_zero] at h0
      cases hl : listed.getD i false with
      | true => rfl
      | false =>
        exfalso; apply h0
        simp only [Array.getD_eq_getD_getElem?, Array.getElem?_eq_getElem (show i < listed.size by omega), Option.getD_some] at hl
        rw [← hl]; simp
    refine ⟨?_, ?_⟩
    · unfold Region.ready
      rw [List.filter_eq_nil_iff]
      intro i hi
      have := hall i (List.mem_range.1 hi)
      have h1 : listed.getD i true = true := by
        simp only [Array.getD_eq_getD_getElem?] at this ⊢
        rw [Array.getElem?_eq_getElem (by have := List.mem_range.1 hi; omega)] at this ⊢
        simpa using this
      simp [h1]
    · obtain ⟨hs, hj, ⟨y, rfl, hf⟩, hsd⟩ := hinv
      exact hend y w hs (hJ _ _ _ (spent_le b _) hj) (MFacts.of (fun j hj d hd => hf j d (hall j (hFin j hj)) (.inl hj) hd) fun j hj hd => hsd j (hall j (hFin j hj)) (.inl hj) hd)
  | succ fuel ih =>
    intro listed a w hsz hc hcl hinv
    refine ⟨fun hr => ?_, fun i hi => ?_⟩
    · have hall := rg_all_listed hsz hedge hr
      obtain ⟨hs, hj, ⟨y, rfl, hf⟩, hsd⟩ := hinv
      exact hend y w hs (hJ _ _ _ (spent_le b _) hj) (MFacts.of (fun j hj d hd => hf j d (hall j (hFin j hj)) (.inl hj) hd) fun j hj hd => hsd j (hall j (hFin j hj)) (.inl hj) hd)
    · obtain ⟨hs, hj, ⟨y, rfl, hf⟩, hsd⟩ := hinv
      unfold Region.ready at hi
      rw [List.mem_filter] at hi
      obtain ⟨hi1, hi2⟩ := hi
      have hi1 := List.mem_range.1 hi1
      simp only [Bool.and_eq_true] at hi2
      obtain ⟨hl, hread⟩ := hi2
      have ho : ops[i]? = some ops[i] := Array.getElem?_eq_getElem hi1
      rw [ho] at hread
      simp only [Option.map_some, Option.getD_some] at hread
      have hlf : listed.getD i false = false := by
        simp only [Array.getD_eq_getD_getElem?] at hl ⊢
        rw [Array.getElem?_eq_getElem (by omega)] at hl ⊢
        simpa using hl
      have hlist : ∀ e ∈ (ops[i]).after.toList, Region.binds .any e = true → listed.getD e.on false = true := by
        intro e he hb
        rw [Array.all_eq_true'] at hread
        have := hread e (by simpa using he)
        simpa [hb] using this
      -- the ancestors of i are listed
      have hanc : ∀ j ∈ A.getD i [], listed.getD j false = true := by
        intro j hj
        rw [List.all_eq_true] at hA
        have h1 := hA i (List.mem_range.2 hi1)
        rw [List.all_eq_true] at h1
        have h2 := h1 j hj
        have h2 : j ∈ (ancsOf ops.toList).getD i [] := by simpa using h2
        have h3 := ancs_listed ops.toList (fun k => k = i ∨ listed.getD k false = true)
          (fun k o hk hL e he hb => by
            have hk : ops[k]? = some o := by simpa using hk
            rcases hL with rfl | hL
            · obtain rfl : ops[k] = o := by rw [ho] at hk; exact Option.some.inj hk
              exact .inr (hlist e he hb)
            · exact .inr (hcl k o hk hL e he hb)) i (.inl rfl) j h2
        rcases h3 with rfl | h3
        · -- an ancestor of itself: not so
          exfalso
          have hlt : ∀ i j, j ∈ (ancsOf ops.toList).getD i [] → j < i := by
            intro i0 j0 h0
            exact (ancs_lt ops.toList (fun k o hk e he hb => hedge k o (by simpa using hk) e he hb) i0 j0 h0)
          exact absurd (hlt _ _ h2) (Nat.lt_irrefl _)
        · exact h3
      have hsp : spent b (listed.setIfInBounds i true).toList = spent b listed.toList + b.getD i 0 := by
        rw [Array.toList_setIfInBounds]
        exact spent_set b listed.toList i (by simpa [Array.getD_eq_getD_getElem?, Array.getElem?_eq_getElem (show i < listed.size by omega)] using hlf) (by simpa using (show i < listed.size by omega))
      have hK : ∀ v w', (bif M.getD i false then S w w' else N w w') → J w' (spent b listed.toList + b.getD i 0) → (Φ.getD i .any).p (bif ops[i].dst.isSome then v else undef) w' →
          wpAny P .any ops Q fuel (listed.setIfInBounds i true) ((⟨(fillL y 0 T mask).toArray, ds⟩ : Act).put ops[i].dst v) w' := by
        intro v w' hs0 hj' hv
        have hs' : S w w' := by
          cases hm : M.getD i false with
          | true => rw [hm] at hs0; exact hs0
          | false => rw [hm] at hs0; exact hNS _ _ hs0
        have hlive : ∀ j, liveOp ops A Fin (listed.setIfInBounds i true) j → liveOp ops A Fin listed j := by
          intro j hj
          rcases hj with hj | ⟨k, hk, hkA, hkl⟩
          · exact .inl hj
          · refine .inr ⟨k, hk, hkA, ?_⟩
            simp only [Array.getD_eq_getD_getElem?, Array.getElem?_setIfInBounds] at hkl ⊢
            by_cases hki : i = k
            · subst hki
              rw [if_pos rfl, if_pos (by omega)] at hkl
              simp at hkl
            · rw [if_neg hki] at hkl
              exact hkl
        have hstab : ∀ j v0, j ≠ i → listed.getD j false = true → liveOp ops A Fin (listed.setIfInBounds i true) j → (Φ.getD j .any).p v0 w → (Φ.getD j .any).p v0 w' := by
          intro j v0 hji hjl hjv hp
          cases hm : M.getD i false with
          | false => rw [hm] at hs0; exact (Φ.getD j .any).ext _ _ _ hs0 hp
          | true =>
            unfold rgmCheck at hmc
            rw [List.all_eq_true] at hmc
            have h1 := hmc i (List.mem_range.2 hi1)
            rw [hm] at h1
            simp only [Bool.not_true, Bool.false_or] at h1
            by_cases hjs : j < ops.size
            · rw [List.all_eq_true] at h1
              have h2 := h1 j (List.mem_range.2 hjs)
              simp only [Bool.or_eq_true, beq_iff_eq, Bool.and_eq_true, Bool.not_eq_true'] at h2
              rcases h2 with ((h2 | h2) | h2) | ⟨h2, h3⟩
              · exact absurd h2 hji
              · refine (Φ.getD j .any).own ?_ _ _ _ hs' hp
                rw [← hH] at h2
                simp only [List.getD_eq_getElem?_getD, List.getElem?_map] at h2 ⊢
                cases hg : Φ[j]? with
                | none => rfl
                | some x => rw [hg] at h2; simpa using h2
              · exfalso
                have h2 : i ∈ (ancsOf ops.toList).getD j [] := by simpa using h2
                have := ancs_listed ops.toList (fun k => listed.getD k false = true) (fun k o hk hL e he hb => hcl k o (by simpa using hk) hL e he hb) j hjl i h2
                rw [hlf] at this; cases this
              · exfalso
                rcases hjv with hjv | ⟨k, hk, hkA, hkl⟩
                · simp at h2; exact h2 hjv
                · rw [List.all_eq_true] at h3
                  have h4 := h3 k (List.mem_range.2 hk)
                  simp only [Bool.or_eq_true, beq_iff_eq, Bool.not_eq_true'] at h4
                  rcases h4 with (h4 | h4) | h4
                  · have : (A.getD k []).contains j = true := by simpa using hkA
                    rw [this] at h4; cases h4
                  · subst h4
                    simp [Array.getD_eq_getD_getElem?, Array.getElem?_setIfInBounds, show k < listed.size by omega] at hkl
                  · have h4 : k ∈ (ancsOf ops.toList).getD i [] := by simpa using h4
                    have hkt : k ≠ i := fun e => by
                      have hlt : ∀ i j, j ∈ (ancsOf ops.toList).getD i [] → j < i := fun i0 j0 h0 => (ancs_lt ops.toList (fun k o hk e he hb => hedge k o (by simpa using hk) e he hb) i0 j0 h0)
                      have := hlt i k h4; omega
                    have h5 := ancs_listed ops.toList (fun k => k = i ∨ listed.getD k false = true)
                      (fun k o hk hL e he hb => by
                        have hk : ops[k]? = some o := by simpa using hk
                        rcases hL with rfl | hL
                        · obtain rfl : ops[k] = o := by rw [ho] at hk; exact Option.some.inj hk
                          exact .inr (hlist e he hb)
                        · exact .inr (hcl k o hk hL e he hb)) i (.inl rfl) k h4
                    rcases h5 with h5 | h5
                    · exact hkt h5
                    · simp only [Array.getD_eq_getD_getElem?, Array.getElem?_setIfInBounds] at hkl h5
                      rw [if_neg (fun h => hkt h.symm), h5] at hkl
                      cases hkl
            · exfalso
              have : listed.getD j false = false := by simp [Array.getD_eq_getD_getElem?, Array.getElem?_eq_none (show listed.size ≤ j by omega)]
              rw [this] at hjl; cases hjl
        refine ih _ _ _ (by simpa using hsz) ?_ ?_ ?_
        · have h1 : i < listed.toList.length := by simpa using (show i < listed.size by omega)
          rw [Array.toList_setIfInBounds, List.count_set h1]
          have h2 : listed.toList[i] = false := by
            simp only [Array.getD_eq_getD_getElem?, Array.getElem?_eq_getElem (show i < listed.size by omega), Option.getD_some] at hlf
            simpa using hlf
          have h3 : 0 < listed.toList.count false := List.count_pos_iff.2 (h2 ▸ List.getElem_mem _)
          rw [h2]; simp only [beq_self_eq_true, if_true, Bool.true_eq_false, if_false, (by decide : ((true : Bool) == false) = false), Bool.false_eq_true]; omega
        · intro k o hk hL e he hb
          have hset : ∀ m, listed.getD m false = true → (listed.setIfInBounds i true).getD m false = true := by
            intro m hm
            simp only [Array.getD_eq_getD_getElem?, Array.getElem?_setIfInBounds] at hm ⊢
            split
            · split
              · rfl
              · rename_i h1 h2; omega
            · exact hm
          by_cases hki : k = i
          · subst hki
            obtain rfl : ops[k] = o := by rw [ho] at hk; exact Option.some.inj hk
            exact hset _ (hlist e he hb)
          · have : listed.getD k false = true := by
              simp only [Array.getD_eq_getD_getElem?, Array.getElem?_setIfInBounds] at hL ⊢
              rw [if_neg (fun h => hki h.symm)] at hL
              exact hL
            exact hset _ (hcl k o hk this e he hb)
        · refine ⟨hSt hs hs', by rw [hsp]; exact hj', ?_, fun j hj hjv hjd => ?_⟩
          rotate_left
          · by_cases hji : j = i
            · subst hji
              rw [hget j _ ho] at hjd
              rw [hjd] at hv
              exact hv
            · have hL : listed.getD j false = true := by
                simp only [Array.getD_eq_getD_getElem?, Array.getElem?_setIfInBounds] at hj ⊢
                rw [if_neg (fun h => hji h.symm)] at hj
                exact hj
              exact hstab j _ hji hL hjv (hsd j hL (hlive j hjv) hjd)
          cases hd : ops[i].dst with
          | none =>
            refine ⟨y, rfl, fun j d hj hjv hjd => ?_⟩
            have hji : j ≠ i := by rintro rfl; rw [hget j _ ho, hd] at hjd; cases hjd
            have : listed.getD j false = true := by
              simp only [Array.getD_eq_getD_getElem?, Array.getElem?_setIfInBounds] at hj ⊢
              rw [if_neg (fun h => hji h.symm)] at hj
              exact hj
            exact hstab j _ hji this hjv (hf j d this (hlive j hjv) hjd)
          | some e =>
            obtain ⟨he1, he2⟩ := hdlt i _ e ho hd
            refine ⟨fun t => if t = e then v else y t, ?_, fun j d hj hjv hjd => ?_⟩
            · simp only [Act.put]
              rw [← fill_set y T mask e v he1 he2]
              simp
            · by_cases hji : j = i
              · subst hji
                have : d = e := by rw [hget j _ ho, hd] at hjd; exact (Option.some.inj hjd).symm
                subst this
                simp only [if_true]
                rw [hd] at hv
                exact hv
              · have hL : listed.getD j false = true := by
                  simp only [Array.getD_eq_getD_getElem?, Array.getElem?_setIfInBounds] at hj ⊢
                  rw [if_neg (fun h => hji h.symm)] at hj
                  exact hj
                have hjlt : j < ops.size := by
                  rcases Nat.lt_or_ge j ops.size with h | h
                  · exact h
                  · rw [hD, List.getD_eq_getElem?_getD, List.getElem?_eq_none (by simpa using h)] at hjd
                    simp at hjd
                have hde : d ≠ e := by
                  rintro rfl
                  exact hne j i d hjlt hi1 hji hjd (by rw [hget i _ ho, hd])
                simp only [if_neg hde]
                exact hstab j _ hji hL hjv (hf j d hL (hlive j hjv) hjd)
      have hob := hobs.at_ i ops[i] (by simpa using ho) y w (spent b listed.toList) hs hj (by rw [Nat.zero_add, ← hsp]; exact spent_le b _) (by
        rw [Nat.zero_add]
        exact MFacts.of (fun j hj d hd => hf j d (hanc j hj) (.inr ⟨i, hi1, hj, hlf⟩) hd) fun j hj hd => hsd j (hanc j hj) (.inr ⟨i, hi1, hj, hlf⟩) hd) _ (by rw [Nat.zero_add]; exact hK)
      unfold wpOp
      rw [ho]
      simp only []
      split
      · rename_i hw
        rw [if_pos hw] at hob
        exact .inl hob
      · rename_i hw
        rw [if_neg hw] at hob
        exact hob

/-- A drawn region, each operation shown once. -/
theorem wp_region_rgm {id : Nat} {w : World} (S N : World → World → Prop) (J : World → Nat → Prop) (b : List Nat) (hm : P.follows .mixedOrders = true) (mask : List Bool) (D : List (Option Nat)) (A : List (List Nat)) (M H : List Bool) (Fin : List Nat) (Φ : List (MStP S N))
    (hcheck : rgCheck ops D A mask T.length = true) (hmc : rgmCheck ops A M H Fin = true) (hFin : (Fin.all fun j => decide (j < ops.size)) = true)
    (hobs : MObs P ops Q w T ds mask D Φ J b A M 0 ops.toList) (hH : Φ.map MStP.hd = H)
    (hNS : ∀ a b, N a b → S a b) (hSt : ∀ {a b c}, S a b → S b c → S a c) (hJ : ∀ w k k', k ≤ k' → J w k → J w k') (hdrew : S w w.drew) (hj0 : J w.drew 0)
    (hend : ∀ y w', S w w' → J w' b.sum → MFacts D Φ y w' Fin → Q .normal ⟨(fillL y 0 T mask).toArray, ds⟩ w') :
    (Code.region id ops true).wp P Q ⟨T.toArray, ds⟩ w :=
  wp_region_any hm (mrg_any hcheck hmc (fun j hj => by rw [List.all_eq_true] at hFin; simpa using hFin j hj) hH hobs hNS hSt hJ hend _ _ _ _ (by simp) (by simp) (by
    intro i o _ h
    simp [Array.getD, Array.getElem?_replicate] at h) ⟨hdrew, by rw [show spent b (Array.replicate ops.size false).toList = 0 by simp [spent_none]]; exact hj0, ⟨_, by rw [fill_self], by intro j d h; simp [Array.getD, Array.getElem?_replicate] at h⟩, by intro j h; simp [Array.getD, Array.getElem?_replicate] at h⟩)
end

/-- Nothing below B has turned. -/
def Own (B : Nat) (w w' : World) : Prop := B ≤ w.heap.size → Below B w w'
theorem Own.of_ext (B : Nat) (a b : World) (h : Ext a b) : Own B a b := fun hB => Below.mono h hB
theorem Own.trans {B : Nat} {a b c : World} (h : Own B a b) (k : Own B b c) : Own B a c := fun hB => (h hB).trans (k (Nat.le_trans hB (h hB).size))
theorem Own.drew (B : Nat) (w : World) : Own B w w.drew := fun _ => Below.drew (Below.refl _ _)
theorem Own.below {w w' : World} (h : Own w.heap.size w w') : Below w.heap.size w w' := h (Nat.le_refl _)
end Go.Proofs.Ytgipchipcoaajaa
