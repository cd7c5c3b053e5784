/- The law on drawn regions, with a slot that is read and, last of all, assigned. No condition. -/
import Derived.Test.YtkmkmndcgemnlaaGreatDoorRg
namespace Go.Proofs.YtkmkmndcgemnlaaGreatDoor
set_option linter.unusedVariables false
set_option linter.unusedSimpArgs false
set_option linter.unnecessarySimpa false
open Go.RowKit

section
variable (P : Program) (ops : Array Oper) (Q : Exit → Act → World → Prop) (w0 : World) (T : List Value) (ds : List Deferred) (mask : List Bool)
  (D : List (Option Nat)) (Φ : List StP) (A : List (List Nat)) (z : Nat)

/-- What is to be shown of one operation: the slot z holds what it held. -/
def RgtOb (i : Nat) (o : Oper) : Prop :=
  ∀ y w, Ext w0 w → y z = T.getD z undef → RgFacts D Φ y w (A.getD i []) →
    ∀ K : Act → World → Prop, (∀ v w', Ext w w' → (Φ.getD i .any).p v w' → K ((⟨(fillL y 0 T mask).toArray, ds⟩ : Act).put o.dst v) w') →
      if Region.wanted o (yielded ops (fillL y 0 T mask).toArray) then o.wp P ⟨(fillL y 0 T mask).toArray, ds⟩ w K Q
      else K ((⟨(fillL y 0 T mask).toArray, ds⟩ : Act).put o.dst undef) w

def RgtObs : Nat → List Oper → Prop
  | _, [] => True
  | i, o :: os => RgtOb P ops Q w0 T ds mask D Φ A z i o ∧ RgtObs (i + 1) os
end

theorem RgtObs.at_ {P : Program} {ops : Array Oper} {Q : Exit → Act → World → Prop} {w0 : World} {T : List Value} {ds : List Deferred} {mask : List Bool}
    {D : List (Option Nat)} {Φ : List StP} {A : List (List Nat)} {z : Nat} :
    ∀ {k : Nat} {os : List Oper}, RgtObs P ops Q w0 T ds mask D Φ A z k os → ∀ i o, os[i]? = some o → RgtOb P ops Q w0 T ds mask D Φ A z (k + i) o
  | _, [], _, i, o, h => by simp at h
  | k, x :: xs, H, 0, o, h => by
    simp at h; subst h; exact H.1
  | k, x :: xs, H, i + 1, o, h => by
    have := RgtObs.at_ H.2 i o (by simpa using h)
    rwa [show k + 1 + i = k + (i + 1) by omega] at this

/-- The operation m assigns the slot z, behind all others. -/
def lastCheck (ops : Array Oper) (D : List (Option Nat)) (m z : Nat) : Bool :=
  (D.getD m none == some z) && decide (m < ops.size) && ((List.range ops.size).all fun i => i == m || ((ancsOf ops.toList).getD m []).contains i)
/-- The frame: what the marked slots hold is y. -/
structure RgtInv (w0 : World) (T : List Value) (ds : List Deferred) (mask : List Bool) (D : List (Option Nat)) (Φ : List StP) (m z : Nat) (listed : Array Bool) (a : Act) (w : World) : Prop where
  step : Ext w0 w
  frame : ∃ y, a = ⟨(fillL y 0 T mask).toArray, ds⟩ ∧ (listed.getD m false = false → y z = T.getD z undef) ∧ ∀ j d, listed.getD j false = true → D.getD j none = some d → (Φ.getD j .any).p (y d) w

section
variable {P : Program} {ops : Array Oper} {Q : Exit → Act → World → Prop} {w0 : World} {T : List Value} {ds : List Deferred} {mask : List Bool}
  {D : List (Option Nat)} {Φ : List StP} {A : List (List Nat)} {m z : Nat}

theorem rgt_any (hcheck : rgCheck ops D A mask T.length = true) (hlast : lastCheck ops D m z = true)
    (hobs : RgtObs P ops Q w0 T ds mask D Φ A z 0 ops.toList)
    (hend : ∀ y w, Ext w0 w → RgFacts D Φ y w (List.range ops.size) → Q .normal ⟨(fillL y 0 T mask).toArray, ds⟩ w) :
    ∀ (fuel : Nat) (listed : Array Bool) (a : Act) (w : World), listed.size = ops.size → listed.toList.count false ≤ fuel →
      (∀ i o, ops[i]? = some o → listed.getD i false = true → ∀ e ∈ o.after.toList, Region.binds .any e = true → listed.getD e.on false = true) →
      RgtInv w0 T ds mask D Φ m z listed a w → wpAny P .any ops Q fuel listed a w := by
  simp only [lastCheck, Bool.and_eq_true] at hlast
  obtain ⟨⟨hl1, hl2⟩, hl3⟩ := hlast
  have hl1 : D.getD m none = some z := by simpa using hl1
  have hl2 : m < ops.size := by simpa using hl2
  simp only [rgCheck, Bool.and_eq_true] at hcheck
  obtain ⟨⟨⟨⟨hD, hE⟩, hdst⟩, hnd⟩, hA⟩ := hcheck
  have hD : D = ops.toList.map (·.dst) := by simpa using hD
  have hedge : ∀ (i : Nat) (o : Oper), ops[i]? = some o → ∀ e ∈ o.after.toList, Region.binds .any e = true → e.on < i := by
    intro i o ho e he hb
    rw [List.all_eq_true] at hE
    have := hE (o, i) (by rw [List.mem_zipIdx_iff_getElem?]; simpa using ho)
    simp only [Array.all_eq_true', Array.mem_toList_iff] at this he
    have := this e he
    simpa [hb] using this
  have hget : ∀ (i : Nat) (o : Oper), ops[i]? = some o → D.getD i none = o.dst := by
    intro i o ho
    rw [hD]
    simp [List.getD, ho]
  have hdlt : ∀ (i : Nat) (o : Oper) (d : Nat), ops[i]? = some o → o.dst = some d → d < T.length ∧ mask.getD d false = true := by
    intro i o d ho hd
    rw [List.all_eq_true] at hdst
    have := hdst d (List.mem_filterMap.2 ⟨o, by have := Array.mem_of_getElem? ho; simpa using this, hd⟩)
    simpa using this
  have hne : ∀ (i j d : Nat), i < ops.size → j < ops.size → i ≠ j → D.getD i none = some d → D.getD j none ≠ some d := by
    have half : ∀ (i j d : Nat), i < ops.size → j < i → D.getD i none = some d → D.getD j none ≠ some d := by
      intro i j d hi hj h1 h2
      rw [List.all_eq_true] at hnd
      have := hnd i (List.mem_range.2 hi)
      rw [List.all_eq_true] at this
      have := this j (List.mem_range.2 hj)
      rw [h1, h2] at this
      simp at this
    intro i j d hi hj hij h1 h2
    rcases Nat.lt_or_gt_of_ne hij with h | h
    · exact half j i d hj h h2 h1
    · exact half i j d hi h h1 h2
  intro fuel
  induction fuel with
  | zero =>
    intro listed a w hsz hc hcl hinv
    have hall : ∀ i, i < ops.size → listed.getD i false = true := by
      intro i hi
      have h0 : listed.toList.count false = 0 := by omega
      rw [List.count_eq_zero] at h0
      cases hl : listed.getD i false with
      | true => rfl
      | false =>
        exfalso; apply h0
        simp only [Array.getD_eq_getD_getElem?, Array.getElem?_eq_getElem (show i < listed.size by omega), Option.getD_some] at hl
        rw [← hl]; simp
    refine ⟨?_, ?_⟩
    · unfold Region.ready
      rw [List.filter_eq_nil_iff]
      intro i hi
      have := hall i (List.mem_range.1 hi)
      have h1 : listed.getD i true = true := by
        simp only [Array.getD_eq_getD_getElem?] at this ⊢
        rw [Array.getElem?_eq_getElem (by have := List.mem_range.1 hi; omega)] at this ⊢
        simpa using this
      simp [h1]
    · obtain ⟨hs, y, rfl, hy, hf⟩ := hinv
      exact hend y w hs (RgFacts.of fun j hj d hd => hf j d (hall j (List.mem_range.1 hj)) hd)
  | succ fuel ih =>
    intro listed a w hsz hc hcl hinv
    refine ⟨fun hr => ?_, fun i hi => ?_⟩
    · have hall := rg_all_listed hsz hedge hr
      obtain ⟨hs, y, rfl, hy, hf⟩ := hinv
      exact hend y w hs (RgFacts.of fun j hj d hd => hf j d (hall j (List.mem_range.1 hj)) hd)
    · obtain ⟨hs, y, rfl, hy, hf⟩ := hinv
      unfold Region.ready at hi
      rw [List.mem_filter] at hi
      obtain ⟨hi1, hi2⟩ := hi
      have hi1 := List.mem_range.1 hi1
      simp only [Bool.and_eq_true] at hi2
      obtain ⟨hl, hread⟩ := hi2
      have ho : ops[i]? = some ops[i] := Array.getElem?_eq_getElem hi1
      rw [ho] at hread
      simp only [Option.map_some, Option.getD_some] at hread
      have hlf : listed.getD i false = false := by
        simp only [Array.getD_eq_getD_getElem?] at hl ⊢
        rw [Array.getElem?_eq_getElem (by omega)] at hl ⊢
        simpa using hl
      have hlist : ∀ e ∈ (ops[i]).after.toList, Region.binds .any e = true → listed.getD e.on false = true := by
        intro e he hb
        rw [Array.all_eq_true'] at hread
        have := hread e (by simpa using he)
        simpa [hb] using this
      -- the ancestors of i are listed
      have hanc : ∀ j ∈ A.getD i [], listed.getD j false = true := by
        intro j hj
        rw [List.all_eq_true] at hA
        have h1 := hA i (List.mem_range.2 hi1)
        rw [List.all_eq_true] at h1
        have h2 := h1 j hj
        have h2 : j ∈ (ancsOf ops.toList).getD i [] := by simpa using h2
        have h3 := ancs_listed ops.toList (fun k => k = i ∨ listed.getD k false = true)
          (fun k o hk hL e he hb => by
            have hk : ops[k]? = some o := by simpa using hk
            rcases hL with rfl | hL
            · obtain rfl : ops[k] = o := by rw [ho] at hk; exact Option.some.inj hk
              exact .inr (hlist e he hb)
            · exact .inr (hcl k o hk hL e he hb)) i (.inl rfl) j h2
        rcases h3 with rfl | h3
        · -- an ancestor of itself: not so
          exfalso
          have hlt : ∀ i j, j ∈ (ancsOf ops.toList).getD i [] → j < i := by
            intro i0 j0 h0
            exact (ancs_lt ops.toList (fun k o hk e he hb => hedge k o (by simpa using hk) e he hb) i0 j0 h0)
          exact absurd (hlt _ _ h2) (Nat.lt_irrefl _)
        · exact h3
      have hmz : listed.getD m false = false := by
        by_cases him : i = m
        · rw [← him]; exact hlf
        · cases hmt : listed.getD m false with
          | false => rfl
          | true =>
            exfalso
            rw [List.all_eq_true] at hl3
            have h1 := hl3 i (List.mem_range.2 hi1)
            have h2 : i ∈ (ancsOf ops.toList).getD m [] := by
              rcases Bool.or_eq_true _ _ ▸ h1 with h | h
              · exact absurd (by simpa using h) him
              · simpa using h
            have h3 := ancs_listed ops.toList (fun k => listed.getD k false = true) (fun k o hk hL e he hb => hcl k o (by simpa using hk) hL e he hb) m hmt i h2
            rw [hlf] at h3
            cases h3
      have hyz := hy hmz
      have hK : ∀ v w', Ext w w' → (Φ.getD i .any).p v w' →
          wpAny P .any ops Q fuel (listed.setIfInBounds i true) ((⟨(fillL y 0 T mask).toArray, ds⟩ : Act).put ops[i].dst v) w' := by
        intro v w' hs' hv
        refine ih _ _ _ (by simpa using hsz) ?_ ?_ ?_
        · have h1 : i < listed.toList.length := by simpa using (show i < listed.size by omega)
          rw [Array.toList_setIfInBounds, List.count_set h1]
          have h2 : listed.toList[i] = false := by
            simp only [Array.getD_eq_getD_getElem?, Array.getElem?_eq_getElem (show i < listed.size by omega), Option.getD_some] at hlf
            simpa using hlf
          have h3 : 0 < listed.toList.count false := List.count_pos_iff.2 (h2 ▸ List.getElem_mem _)
          rw [h2]; simp only [beq_self_eq_true, if_true, Bool.true_eq_false, if_false, (by decide : ((true : Bool) == false) = false), Bool.false_eq_true]; omega
        · intro k o hk hL e he hb
          have hset : ∀ m, listed.getD m false = true → (listed.setIfInBounds i true).getD m false = true := by
            intro m hm
            simp only [Array.getD_eq_getD_getElem?, Array.getElem?_setIfInBounds] at hm ⊢
            split
            · split
              · rfl
              · rename_i h1 h2; omega
            · exact hm
          by_cases hki : k = i
          · subst hki
            obtain rfl : ops[k] = o := by rw [ho] at hk; exact Option.some.inj hk
            exact hset _ (hlist e he hb)
          · have : listed.getD k false = true := by
              simp only [Array.getD_eq_getD_getElem?, Array.getElem?_setIfInBounds] at hL ⊢
              rw [if_neg (fun h => hki h.symm)] at hL
              exact hL
            exact hset _ (hcl k o hk this e he hb)
        · refine ⟨Ext.trans hs hs', ?_⟩
          cases hd : ops[i].dst with
          | none =>
            refine ⟨y, rfl, fun _ => hyz, fun j d hj hjd => ?_⟩
            have hji : j ≠ i := by rintro rfl; rw [hget j _ ho, hd] at hjd; cases hjd
            have : listed.getD j false = true := by
              simp only [Array.getD_eq_getD_getElem?, Array.getElem?_setIfInBounds] at hj ⊢
              rw [if_neg (fun h => hji h.symm)] at hj
              exact hj
            exact (Φ.getD j .any).ext _ _ _ hs' (hf j d this hjd)
          | some e =>
            obtain ⟨he1, he2⟩ := hdlt i _ e ho hd
            refine ⟨fun t => if t = e then v else y t, ?_, fun hm2 => ?_, fun j d hj hjd => ?_⟩
            · simp only [Act.put]
              rw [← fill_set y T mask e v he1 he2]
              simp
            · have hmi : m ≠ i := by
                rintro rfl
                simp only [Array.getD_eq_getD_getElem?, Array.getElem?_setIfInBounds] at hm2
                rw [if_pos trivial, if_pos (by omega)] at hm2
                simp at hm2
              have hze : z ≠ e := by
                rintro rfl
                exact hne m i z hl2 hi1 hmi hl1 (by rw [hget i _ ho, hd])
              simp only [if_neg hze]
              exact hyz
            · by_cases hji : j = i
              · subst hji
                have : d = e := by rw [hget j _ ho, hd] at hjd; exact (Option.some.inj hjd).symm
                subst this
                simp only [if_true]
                exact hv
              · have hL : listed.getD j false = true := by
                  simp only [Array.getD_eq_getD_getElem?, Array.getElem?_setIfInBounds] at hj ⊢
                  rw [if_neg (fun h => hji h.symm)] at hj
                  exact hj
                have hjlt : j < ops.size := by
                  rcases Nat.lt_or_ge j ops.size with h | h
                  · exact h
                  · rw [hD, List.getD_eq_getElem?_getD, List.getElem?_eq_none (by simpa using h)] at hjd
                    simp at hjd
                have hde : d ≠ e := by
                  rintro rfl
                  exact hne j i d hjlt hi1 hji hjd (by rw [hget i _ ho, hd])
                simp only [if_neg hde]
                exact (Φ.getD j .any).ext _ _ _ hs' (hf j d hL hjd)
      have hob := hobs.at_ i ops[i] (by simpa using ho) y w hs hyz (by
        rw [Nat.zero_add]
        exact RgFacts.of fun j hj d hd => hf j d (hanc j hj) hd) _ (by rw [Nat.zero_add]; exact hK)
      unfold wpOp
      rw [ho]
      simp only []
      split
      · rename_i hw
        rw [if_pos hw] at hob
        exact .inl hob
      · rename_i hw
        rw [if_neg hw] at hob
        exact hob

/-- A drawn region, each operation shown once; the slot z holds what it held till the last operation. -/
theorem wp_region_rgt {id : Nat} {w : World} (hm : P.follows .mixedOrders = true) (m z : Nat) (mask : List Bool) (D : List (Option Nat)) (A : List (List Nat)) (Φ : List StP)
    (hcheck : rgCheck ops D A mask T.length = true) (hlast : lastCheck ops D m z = true)
    (hobs : RgtObs P ops Q w T ds mask D Φ A z 0 ops.toList)
    (hend : ∀ y w', Ext w w' → RgFacts D Φ y w' (List.range ops.size) → Q .normal ⟨(fillL y 0 T mask).toArray, ds⟩ w') :
    (Code.region id ops true).wp P Q ⟨T.toArray, ds⟩ w :=
  wp_region_any hm (rgt_any (m := m) (z := z) hcheck hlast hobs hend _ _ _ _ (by simp) (by simp) (by
    intro i o _ h
    simp [Array.getD, Array.getElem?_replicate] at h) ⟨Ext.drew w, _, by rw [fill_self], fun _ => rfl, by intro j d h; simp [Array.getD, Array.getElem?_replicate] at h⟩)
end
end Go.Proofs.YtkmkmndcgemnlaaGreatDoor
