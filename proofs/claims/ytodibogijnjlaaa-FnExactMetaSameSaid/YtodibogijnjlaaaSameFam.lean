/- Whether two slices of structs are equal. No condition. -/
import Derived.Test.YtodibogijnjlaaaFam0
import Derived.Test.YtodibogijnjlaaaChecked
namespace Go.Proofs.Ytodibogijnjlaaa
set_option linter.unusedVariables false
set_option linter.unusedSimpArgs false
set_option linter.unnecessarySimpa false
open Go.RowKit

/-- Two data are one. -/
noncomputable def eqD {α : Type} (x y : α) : Bool := @decide (x = y) (Classical.propDecidable _)
theorem eqD_yes {α : Type} {x y : α} (h : x = y) : eqD x y = true := by unfold eqD; simp [h]
theorem eqD_iff {α : Type} {x y : α} : eqD x y = true ↔ x = y := by unfold eqD; simp
theorem eqD_no {α : Type} {x y : α} (h : x ≠ y) : eqD x y = false := by unfold eqD; simp [h]
theorem str_ne {a b : ByteArray} (h : ¬ a = b) : ¬ a.toList = b.toList := fun e => h (by
  rw [ByteArray.toList_eq, ByteArray.toList_eq] at e
  have := Array.toList_inj.1 e
  cases a; cases b; simpa using this)
/-- Two lists are one. -/
noncomputable def same {α : Type} (xs ys : List α) : Bool := @decide (xs = ys) (Classical.propDecidable _)
theorem same_iff {α : Type} {xs ys : List α} : same xs ys = true ↔ xs = ys := by unfold same; simp
theorem same_len {α : Type} {xs ys : List α} (h : xs.length ≠ ys.length) : same xs ys = false := by
  cases hs : same xs ys with
  | false => rfl
  | true => exact absurd (congrArg List.length (same_iff.1 hs)) h
theorem same_no {α : Type} {xs ys : List α} {k : Nat} {x z : α} (hx : xs[k]? = some x) (hz : ys[k]? = some z) (h : x ≠ z) : same xs ys = false := by
  cases hs : same xs ys with
  | false => rfl
  | true => rw [same_iff.1 hs, hz] at hx; exact absurd (Option.some.inj hx).symm h
theorem same_step {α : Type} {xs ys : List α} {k : Nat} {x z : α} (hp : ∀ j, j < k → xs[j]? = ys[j]?) (hx : xs[k]? = some x) (hz : ys[k]? = some z) (h : x = z) : ∀ j, j < k + 1 → xs[j]? = ys[j]? := by
  intro j hj
  rcases Nat.lt_or_ge j k with h1 | h1
  · exact hp j h1
  · obtain rfl : j = k := by omega
    rw [hx, hz, h]
theorem same_all {α : Type} {xs ys : List α} {n : Nat} (hp : ∀ j, j < n → xs[j]? = ys[j]?) (h1 : xs.length = n) (h2 : ys.length = n) : same xs ys = true := by
  rw [same_iff]
  apply List.ext_getElem?
  intro i
  rcases Nat.lt_or_ge i n with h | h
  · exact hp i h
  · rw [List.getElem?_eq_none (by omega), List.getElem?_eq_none (by omega)]

set_option maxRecDepth 100000 in
set_option maxHeartbeats 4000000 in
theorem slicesEqualFound_any (A B : Option Addr) (n c m d : Nat) (xs ys : List FoundD) (w : World) (lo hi lo' hi' : Nat) (h : SliceR FoundR 2 w lo hi A n c xs) (h' : SliceR FoundR 2 w lo' hi' B m d ys) :
    Calls Try.prog 68 #[.slice A n c, .slice B m d] w fun e w' => e = .returned (.bool (same xs ys)) ∧ Below w.heap.size w w' := by
  have hn := h.max
  have hm := h'.max
  have HL := Lib.hid h.len
  have HL' := Lib.hid h'.len
  have H := Lib.hid h
  have H' := Lib.hid h'
  clear h h'
  by_cases hnm : n = m
  · subst hnm
    go_enter Try.func68, Try.ntmps68
    go_wp2_with fail
    go_loopw [5, 13] (fun s5 s13 wr => ∃ k : Nat, k ≤ n ∧ s13 = .int .i64 k ∧ Hid (∀ j, j < k → xs[j]? = ys[j]?) ∧ Below w.heap.size w wr) (fun _ s13 _ => n - (intOf s13).toNat)
    case atStart => exact ⟨0, Nat.zero_le _, rfl, Lib.hid (fun j hj => absurd hj (by omega)), Below.refl _ _⟩
    case round =>
      obtain ⟨k, hk, rfl, HP, hB⟩ := hrel
      by_cases hlt : k < n
      · obtain ⟨x, hx⟩ : ∃ x, xs[k]? = some x := ⟨xs[k]'(by rw [HL.out]; exact hlt), List.getElem?_eq_getElem _⟩
        obtain ⟨z, hz⟩ : ∃ z, ys[k]? = some z := ⟨ys[k]'(by rw [HL'.out]; exact hlt), List.getElem?_eq_getElem _⟩
        obtain ⟨b, off, rfl, _, _, bl, hc⟩ := (SliceR.below H.out hB (FoundR.below hB H.out.lo_le)).at_ (by omega)
        obtain ⟨b', off', rfl, _, _, bl', hc'⟩ := (SliceR.below H'.out hB (FoundR.below hB H'.out.lo_le)).at_ (by omega)
        obtain ⟨cs, hcl, hcc, hr⟩ := hc k x hx
        obtain ⟨cs', hcl', hcc', hr'⟩ := hc' k z hz
        clear hc hc'
        have hstep := same_step HP.out hx hz
        have hno := same_no hx hz
        obtain ⟨xpath_, xid_⟩ := x
        obtain ⟨zpath_, zid_⟩ := z
        obtain ⟨rfl, ha0⟩ := hr
        obtain ⟨rfl, hb0⟩ := hr'
        have q0 := hcc 0 _ rfl
        have r0 := hcc' 0 _ rfl
        have q1 := hcc 1 _ rfl
        have r1 := hcc' 1 _ rfl
        simp only [Nat.add_zero] at q0 r0
        clear hcc hcc' hcl hcl' hx hz HP ha0 hb0
        have HST := Lib.hid hstep
        have HNO := Lib.hid hno
        clear hstep hno
        have k0 : (0 : Int) ≤ (k : Int) := by omega
        have k1 : (k : Int) < (n : Int) := by omega
        by_cases d0 : xpath_ = zpath_
        · subst d0
          by_cases d1 : xid_ = zid_
          · subst d1
            have HS2 := Lib.hid (HST.out rfl)
            clear HST HNO
            go_wp2_with fail
            apply wp_region_rg (by kernel_rfl) (false :: false :: false :: false :: false :: false :: false :: false :: false :: false :: false :: false :: false :: false :: false :: false :: true :: true :: true :: true :: true :: true :: true :: true :: true :: false :: []) [some 16, some 17, some 18, some 19, some 20, some 21, some 22, some 23, some 24] [[], [], [0, 1], [2], [], [], [4, 5], [6], [3, 7]] [StP.is _, StP.is _, StP.is _, StP.is _, StP.is _, StP.is _, StP.is _, StP.is _, StP.is _] (by kernel_rfl)
            case hobs =>
              refine ⟨fun y w' hS hF K hK => ?_, ?_⟩
              · skip -- 0: move
                simp only [fillL, cond_true, cond_false, List.getD_cons_zero, List.getD_cons_succ, StP.is, Act.put, List.setIfInBounds_toArray, List.set_cons_zero, List.set_cons_succ, Nat.reduceAdd] at hK ⊢
                refine rg_yes (by kernel_rfl) ?_
                clear hF
                go_simp
                exact hK _ _ (Ext.refl _) rfl
              refine ⟨fun y w' hS hF K hK => ?_, ?_⟩
              · skip -- 1: move
                simp only [fillL, cond_true, cond_false, List.getD_cons_zero, List.getD_cons_succ, StP.is, Act.put, List.setIfInBounds_toArray, List.set_cons_zero, List.set_cons_succ, Nat.reduceAdd] at hK ⊢
                refine rg_yes (by kernel_rfl) ?_
                clear hF
                go_simp
                exact hK _ _ (Ext.refl _) rfl
              refine ⟨fun y w' hS hF K hK => ?_, ?_⟩
              · skip -- 2: indexAddr
                have e16 : y 16 = _ := hF.1
                have e17 : y 17 = _ := hF.2.1
                simp only [fillL, cond_true, cond_false, List.getD_cons_zero, List.getD_cons_succ, StP.is, Act.put, List.setIfInBounds_toArray, List.set_cons_zero, List.set_cons_succ, Nat.reduceAdd, e16, e17] at hK ⊢
                refine rg_yes (by kernel_rfl) ?_
                clear e16 e17
                clear hF
                go_simp
                exact hK _ _ (Ext.refl _) rfl
              refine ⟨fun y w' hS hF K hK => ?_, ?_⟩
              · skip -- 3: load
                have e18 : y 18 = _ := hF.1
                simp only [fillL, cond_true, cond_false, List.getD_cons_zero, List.getD_cons_succ, StP.is, Act.put, List.setIfInBounds_toArray, List.set_cons_zero, List.set_cons_succ, Nat.reduceAdd, e18] at hK ⊢
                refine rg_yes (by kernel_rfl) ?_
                have qx0_ := (Below.cell hS bl).trans q0
                have qx1_ := (Below.cell hS bl).trans q1
                have qx2_ := (Below.cell hS bl').trans r0
                have qx3_ := (Below.cell hS bl').trans r1
                clear e18
                clear hF
                go_simp
                exact hK _ _ (Ext.refl _) rfl
              refine ⟨fun y w' hS hF K hK => ?_, ?_⟩
              · skip -- 4: move
                simp only [fillL, cond_true, cond_false, List.getD_cons_zero, List.getD_cons_succ, StP.is, Act.put, List.setIfInBounds_toArray, List.set_cons_zero, List.set_cons_succ, Nat.reduceAdd] at hK ⊢
                refine rg_yes (by kernel_rfl) ?_
                clear hF
                go_simp
                exact hK _ _ (Ext.refl _) rfl
              refine ⟨fun y w' hS hF K hK => ?_, ?_⟩
              · skip -- 5: move
                simp only [fillL, cond_true, cond_false, List.getD_cons_zero, List.getD_cons_succ, StP.is, Act.put, List.setIfInBounds_toArray, List.set_cons_zero, List.set_cons_succ, Nat.reduceAdd] at hK ⊢
                refine rg_yes (by kernel_rfl) ?_
                clear hF
                go_simp
                exact hK _ _ (Ext.refl _) rfl
              refine ⟨fun y w' hS hF K hK => ?_, ?_⟩
              · skip -- 6: indexAddr
                have e20 : y 20 = _ := hF.1
                have e21 : y 21 = _ := hF.2.1
                simp only [fillL, cond_true, cond_false, List.getD_cons_zero, List.getD_cons_succ, StP.is, Act.put, List.setIfInBounds_toArray, List.set_cons_zero, List.set_cons_succ, Nat.reduceAdd, e20, e21] at hK ⊢
                refine rg_yes (by kernel_rfl) ?_
                clear e20 e21
                clear hF
                go_simp
                exact hK _ _ (Ext.refl _) rfl
              refine ⟨fun y w' hS hF K hK => ?_, ?_⟩
              · skip -- 7: load
                have e22 : y 22 = _ := hF.1
                simp only [fillL, cond_true, cond_false, List.getD_cons_zero, List.getD_cons_succ, StP.is, Act.put, List.setIfInBounds_toArray, List.set_cons_zero, List.set_cons_succ, Nat.reduceAdd, e22] at hK ⊢
                refine rg_yes (by kernel_rfl) ?_
                have qx0_ := (Below.cell hS bl).trans q0
                have qx1_ := (Below.cell hS bl).trans q1
                have qx2_ := (Below.cell hS bl').trans r0
                have qx3_ := (Below.cell hS bl').trans r1
                clear e22
                clear hF
                go_simp
                exact hK _ _ (Ext.refl _) rfl
              refine ⟨fun y w' hS hF K hK => ?_, ?_⟩
              · skip -- 8: binOp
                have e19 : y 19 = _ := hF.1
                have e23 : y 23 = _ := hF.2.1
                simp only [fillL, cond_true, cond_false, List.getD_cons_zero, List.getD_cons_succ, StP.is, Act.put, List.setIfInBounds_toArray, List.set_cons_zero, List.set_cons_succ, Nat.reduceAdd, e19, e23] at hK ⊢
                refine rg_yes (by kernel_rfl) ?_
                clear e19 e23
                clear hF
                go_simp
                exact hK _ _ (Ext.refl _) rfl
              trivial
            case hend =>
              intro y w2 hX hF
              have e24 : y 24 = _ := hF.2.2.2.2.2.2.2.2.1
              clear hF
              simp only [fillL, cond_true, cond_false, Nat.reduceAdd, e24]
              clear e24
              have hB2 : Below w.heap.size w w2 := hB.trans (Below.mono hX hB.size)
              clear hX
              go_wp2_with fail
              go_roundw
              case rel => exact ⟨k + 1, by omega, by go_num, HS2, hB2⟩
              case measure => simp [intOf]; omega
          · have HN2 := Lib.hid (HNO.out (by simp [d1]))
            skip
            clear HST HNO
            go_wp2_with fail
            apply wp_region_rg (by kernel_rfl) (false :: false :: false :: false :: false :: false :: false :: false :: false :: false :: false :: false :: false :: false :: false :: false :: true :: true :: true :: true :: true :: true :: true :: true :: true :: false :: []) [some 16, some 17, some 18, some 19, some 20, some 21, some 22, some 23, some 24] [[], [], [0, 1], [2], [], [], [4, 5], [6], [3, 7]] [StP.is _, StP.is _, StP.is _, StP.is _, StP.is _, StP.is _, StP.is _, StP.is _, StP.is _] (by kernel_rfl)
            case hobs =>
              refine ⟨fun y w' hS hF K hK => ?_, ?_⟩
              · skip -- 0: move
                simp only [fillL, cond_true, cond_false, List.getD_cons_zero, List.getD_cons_succ, StP.is, Act.put, List.setIfInBounds_toArray, List.set_cons_zero, List.set_cons_succ, Nat.reduceAdd] at hK ⊢
                refine rg_yes (by kernel_rfl) ?_
                clear hF
                go_simp
                exact hK _ _ (Ext.refl _) rfl
              refine ⟨fun y w' hS hF K hK => ?_, ?_⟩
              · skip -- 1: move
                simp only [fillL, cond_true, cond_false, List.getD_cons_zero, List.getD_cons_succ, StP.is, Act.put, List.setIfInBounds_toArray, List.set_cons_zero, List.set_cons_succ, Nat.reduceAdd] at hK ⊢
                refine rg_yes (by kernel_rfl) ?_
                clear hF
                go_simp
                exact hK _ _ (Ext.refl _) rfl
              refine ⟨fun y w' hS hF K hK => ?_, ?_⟩
              · skip -- 2: indexAddr
                have e16 : y 16 = _ := hF.1
                have e17 : y 17 = _ := hF.2.1
                simp only [fillL, cond_true, cond_false, List.getD_cons_zero, List.getD_cons_succ, StP.is, Act.put, List.setIfInBounds_toArray, List.set_cons_zero, List.set_cons_succ, Nat.reduceAdd, e16, e17] at hK ⊢
                refine rg_yes (by kernel_rfl) ?_
                clear e16 e17
                clear hF
                go_simp
                exact hK _ _ (Ext.refl _) rfl
              refine ⟨fun y w' hS hF K hK => ?_, ?_⟩
              · skip -- 3: load
                have e18 : y 18 = _ := hF.1
                simp only [fillL, cond_true, cond_false, List.getD_cons_zero, List.getD_cons_succ, StP.is, Act.put, List.setIfInBounds_toArray, List.set_cons_zero, List.set_cons_succ, Nat.reduceAdd, e18] at hK ⊢
                refine rg_yes (by kernel_rfl) ?_
                have qx0_ := (Below.cell hS bl).trans q0
                have qx1_ := (Below.cell hS bl).trans q1
                have qx2_ := (Below.cell hS bl').trans r0
                have qx3_ := (Below.cell hS bl').trans r1
                clear e18
                clear hF
                go_simp
                exact hK _ _ (Ext.refl _) rfl
              refine ⟨fun y w' hS hF K hK => ?_, ?_⟩
              · skip -- 4: move
                simp only [fillL, cond_true, cond_false, List.getD_cons_zero, List.getD_cons_succ, StP.is, Act.put, List.setIfInBounds_toArray, List.set_cons_zero, List.set_cons_succ, Nat.reduceAdd] at hK ⊢
                refine rg_yes (by kernel_rfl) ?_
                clear hF
                go_simp
                exact hK _ _ (Ext.refl _) rfl
              refine ⟨fun y w' hS hF K hK => ?_, ?_⟩
              · skip -- 5: move
                simp only [fillL, cond_true, cond_false, List.getD_cons_zero, List.getD_cons_succ, StP.is, Act.put, List.setIfInBounds_toArray, List.set_cons_zero, List.set_cons_succ, Nat.reduceAdd] at hK ⊢
                refine rg_yes (by kernel_rfl) ?_
                clear hF
                go_simp
                exact hK _ _ (Ext.refl _) rfl
              refine ⟨fun y w' hS hF K hK => ?_, ?_⟩
              · skip -- 6: indexAddr
                have e20 : y 20 = _ := hF.1
                have e21 : y 21 = _ := hF.2.1
                simp only [fillL, cond_true, cond_false, List.getD_cons_zero, List.getD_cons_succ, StP.is, Act.put, List.setIfInBounds_toArray, List.set_cons_zero, List.set_cons_succ, Nat.reduceAdd, e20, e21] at hK ⊢
                refine rg_yes (by kernel_rfl) ?_
                clear e20 e21
                clear hF
                go_simp
                exact hK _ _ (Ext.refl _) rfl
              refine ⟨fun y w' hS hF K hK => ?_, ?_⟩
              · skip -- 7: load
                have e22 : y 22 = _ := hF.1
                simp only [fillL, cond_true, cond_false, List.getD_cons_zero, List.getD_cons_succ, StP.is, Act.put, List.setIfInBounds_toArray, List.set_cons_zero, List.set_cons_succ, Nat.reduceAdd, e22] at hK ⊢
                refine rg_yes (by kernel_rfl) ?_
                have qx0_ := (Below.cell hS bl).trans q0
                have qx1_ := (Below.cell hS bl).trans q1
                have qx2_ := (Below.cell hS bl').trans r0
                have qx3_ := (Below.cell hS bl').trans r1
                clear e22
                clear hF
                go_simp
                exact hK _ _ (Ext.refl _) rfl
              refine ⟨fun y w' hS hF K hK => ?_, ?_⟩
              · skip -- 8: binOp
                have e19 : y 19 = _ := hF.1
                have e23 : y 23 = _ := hF.2.1
                simp only [fillL, cond_true, cond_false, List.getD_cons_zero, List.getD_cons_succ, StP.is, Act.put, List.setIfInBounds_toArray, List.set_cons_zero, List.set_cons_succ, Nat.reduceAdd, e19, e23] at hK ⊢
                refine rg_yes (by kernel_rfl) ?_
                clear e19 e23
                clear hF
                go_simp
                exact hK _ _ (Ext.refl _) rfl
              trivial
            case hend =>
              intro y w2 hX hF
              have e24 : y 24 = _ := hF.2.2.2.2.2.2.2.2.1
              clear hF
              simp only [fillL, cond_true, cond_false, Nat.reduceAdd, e24]
              clear e24
              have hB2 : Below w.heap.size w w2 := hB.trans (Below.mono hX hB.size)
              clear hX
              go_wp2_with fail
              go_ret
              exact ⟨ret_bool HN2.out.symm, hB2⟩
        · have HN2 := Lib.hid (HNO.out (by simp [d0]))
          have e0_ := str_ne d0
          clear HST HNO
          go_wp2_with fail
          apply wp_region_rg (by kernel_rfl) (false :: false :: false :: false :: false :: false :: false :: false :: false :: false :: false :: false :: false :: false :: false :: false :: true :: true :: true :: true :: true :: true :: true :: true :: true :: false :: []) [some 16, some 17, some 18, some 19, some 20, some 21, some 22, some 23, some 24] [[], [], [0, 1], [2], [], [], [4, 5], [6], [3, 7]] [StP.is _, StP.is _, StP.is _, StP.is _, StP.is _, StP.is _, StP.is _, StP.is _, StP.is _] (by kernel_rfl)
          case hobs =>
            refine ⟨fun y w' hS hF K hK => ?_, ?_⟩
            · skip -- 0: move
              simp only [fillL, cond_true, cond_false, List.getD_cons_zero, List.getD_cons_succ, StP.is, Act.put, List.setIfInBounds_toArray, List.set_cons_zero, List.set_cons_succ, Nat.reduceAdd] at hK ⊢
              refine rg_yes (by kernel_rfl) ?_
              clear hF
              go_simp
              exact hK _ _ (Ext.refl _) rfl
            refine ⟨fun y w' hS hF K hK => ?_, ?_⟩
            · skip -- 1: move
              simp only [fillL, cond_true, cond_false, List.getD_cons_zero, List.getD_cons_succ, StP.is, Act.put, List.setIfInBounds_toArray, List.set_cons_zero, List.set_cons_succ, Nat.reduceAdd] at hK ⊢
              refine rg_yes (by kernel_rfl) ?_
              clear hF
              go_simp
              exact hK _ _ (Ext.refl _) rfl
            refine ⟨fun y w' hS hF K hK => ?_, ?_⟩
            · skip -- 2: indexAddr
              have e16 : y 16 = _ := hF.1
              have e17 : y 17 = _ := hF.2.1
              simp only [fillL, cond_true, cond_false, List.getD_cons_zero, List.getD_cons_succ, StP.is, Act.put, List.setIfInBounds_toArray, List.set_cons_zero, List.set_cons_succ, Nat.reduceAdd, e16, e17] at hK ⊢
              refine rg_yes (by kernel_rfl) ?_
              clear e16 e17
              clear hF
              go_simp
              exact hK _ _ (Ext.refl _) rfl
            refine ⟨fun y w' hS hF K hK => ?_, ?_⟩
            · skip -- 3: load
              have e18 : y 18 = _ := hF.1
              simp only [fillL, cond_true, cond_false, List.getD_cons_zero, List.getD_cons_succ, StP.is, Act.put, List.setIfInBounds_toArray, List.set_cons_zero, List.set_cons_succ, Nat.reduceAdd, e18] at hK ⊢
              refine rg_yes (by kernel_rfl) ?_
              have qx0_ := (Below.cell hS bl).trans q0
              have qx1_ := (Below.cell hS bl).trans q1
              have qx2_ := (Below.cell hS bl').trans r0
              have qx3_ := (Below.cell hS bl').trans r1
              clear e18
              clear hF
              go_simp
              exact hK _ _ (Ext.refl _) rfl
            refine ⟨fun y w' hS hF K hK => ?_, ?_⟩
            · skip -- 4: move
              simp only [fillL, cond_true, cond_false, List.getD_cons_zero, List.getD_cons_succ, StP.is, Act.put, List.setIfInBounds_toArray, List.set_cons_zero, List.set_cons_succ, Nat.reduceAdd] at hK ⊢
              refine rg_yes (by kernel_rfl) ?_
              clear hF
              go_simp
              exact hK _ _ (Ext.refl _) rfl
            refine ⟨fun y w' hS hF K hK => ?_, ?_⟩
            · skip -- 5: move
              simp only [fillL, cond_true, cond_false, List.getD_cons_zero, List.getD_cons_succ, StP.is, Act.put, List.setIfInBounds_toArray, List.set_cons_zero, List.set_cons_succ, Nat.reduceAdd] at hK ⊢
              refine rg_yes (by kernel_rfl) ?_
              clear hF
              go_simp
              exact hK _ _ (Ext.refl _) rfl
            refine ⟨fun y w' hS hF K hK => ?_, ?_⟩
            · skip -- 6: indexAddr
              have e20 : y 20 = _ := hF.1
              have e21 : y 21 = _ := hF.2.1
              simp only [fillL, cond_true, cond_false, List.getD_cons_zero, List.getD_cons_succ, StP.is, Act.put, List.setIfInBounds_toArray, List.set_cons_zero, List.set_cons_succ, Nat.reduceAdd, e20, e21] at hK ⊢
              refine rg_yes (by kernel_rfl) ?_
              clear e20 e21
              clear hF
              go_simp
              exact hK _ _ (Ext.refl _) rfl
            refine ⟨fun y w' hS hF K hK => ?_, ?_⟩
            · skip -- 7: load
              have e22 : y 22 = _ := hF.1
              simp only [fillL, cond_true, cond_false, List.getD_cons_zero, List.getD_cons_succ, StP.is, Act.put, List.setIfInBounds_toArray, List.set_cons_zero, List.set_cons_succ, Nat.reduceAdd, e22] at hK ⊢
              refine rg_yes (by kernel_rfl) ?_
              have qx0_ := (Below.cell hS bl).trans q0
              have qx1_ := (Below.cell hS bl).trans q1
              have qx2_ := (Below.cell hS bl').trans r0
              have qx3_ := (Below.cell hS bl').trans r1
              clear e22
              clear hF
              go_simp
              exact hK _ _ (Ext.refl _) rfl
            refine ⟨fun y w' hS hF K hK => ?_, ?_⟩
            · skip -- 8: binOp
              have e19 : y 19 = _ := hF.1
              have e23 : y 23 = _ := hF.2.1
              simp only [fillL, cond_true, cond_false, List.getD_cons_zero, List.getD_cons_succ, StP.is, Act.put, List.setIfInBounds_toArray, List.set_cons_zero, List.set_cons_succ, Nat.reduceAdd, e19, e23] at hK ⊢
              refine rg_yes (by kernel_rfl) ?_
              clear e19 e23
              clear hF
              go_simp
              exact hK _ _ (Ext.refl _) rfl
            trivial
          case hend =>
            intro y w2 hX hF
            have e24 : y 24 = _ := hF.2.2.2.2.2.2.2.2.1
            clear hF
            simp only [fillL, cond_true, cond_false, Nat.reduceAdd, e24]
            clear e24
            have hB2 : Below w.heap.size w w2 := hB.trans (Below.mono hX hB.size)
            clear hX
            go_wp2_with fail
            go_ret
            exact ⟨ret_bool HN2.out.symm, hB2⟩
      · obtain rfl : k = n := by omega
        have hf := Lib.hid (same_all HP.out HL.out HL'.out)
        go_wp2_with fail
        go_ret
        exact ⟨ret_bool hf.out.symm, hB⟩
  · have e2 : ((n : Int) != m) = true := by simp; omega
    have hf := Lib.hid (same_len (xs := xs) (ys := ys) (by rw [HL.out, HL'.out]; exact hnm))
    clear hnm
    go_enter Try.func68, Try.ntmps68
    go_wp2_with fail
    go_ret
    exact ⟨ret_bool hf.out.symm, Below.refl _ _⟩

set_option maxRecDepth 100000 in
set_option maxHeartbeats 4000000 in
theorem slicesEqualThing_any (A B : Option Addr) (n c m d : Nat) (xs ys : List ThingD) (w : World) (lo hi lo' hi' : Nat) (h : SliceR ThingR 3 w lo hi A n c xs) (h' : SliceR ThingR 3 w lo' hi' B m d ys) :
    Calls Try.prog 69 #[.slice A n c, .slice B m d] w fun e w' => e = .returned (.bool (same xs ys)) ∧ Below w.heap.size w w' := by
  have hn := h.max
  have hm := h'.max
  have HL := Lib.hid h.len
  have HL' := Lib.hid h'.len
  have H := Lib.hid h
  have H' := Lib.hid h'
  clear h h'
  by_cases hnm : n = m
  · subst hnm
    go_enter Try.func69, Try.ntmps69
    go_wp2_with fail
    go_loopw [5, 13] (fun s5 s13 wr => ∃ k : Nat, k ≤ n ∧ s13 = .int .i64 k ∧ Hid (∀ j, j < k → xs[j]? = ys[j]?) ∧ Below w.heap.size w wr) (fun _ s13 _ => n - (intOf s13).toNat)
    case atStart => exact ⟨0, Nat.zero_le _, rfl, Lib.hid (fun j hj => absurd hj (by omega)), Below.refl _ _⟩
    case round =>
      obtain ⟨k, hk, rfl, HP, hB⟩ := hrel
      by_cases hlt : k < n
      · obtain ⟨x, hx⟩ : ∃ x, xs[k]? = some x := ⟨xs[k]'(by rw [HL.out]; exact hlt), List.getElem?_eq_getElem _⟩
        obtain ⟨z, hz⟩ : ∃ z, ys[k]? = some z := ⟨ys[k]'(by rw [HL'.out]; exact hlt), List.getElem?_eq_getElem _⟩
        obtain ⟨b, off, rfl, _, _, bl, hc⟩ := (SliceR.below H.out hB (ThingR.below hB H.out.lo_le)).at_ (by omega)
        obtain ⟨b', off', rfl, _, _, bl', hc'⟩ := (SliceR.below H'.out hB (ThingR.below hB H'.out.lo_le)).at_ (by omega)
        obtain ⟨cs, hcl, hcc, hr⟩ := hc k x hx
        obtain ⟨cs', hcl', hcc', hr'⟩ := hc' k z hz
        clear hc hc'
        have hstep := same_step HP.out hx hz
        have hno := same_no hx hz
        obtain ⟨xid_, xfolder_, xtext_⟩ := x
        obtain ⟨zid_, zfolder_, ztext_⟩ := z
        obtain ⟨rfl, ha0⟩ := hr
        obtain ⟨rfl, hb0⟩ := hr'
        have q0 := hcc 0 _ rfl
        have r0 := hcc' 0 _ rfl
        have q1 := hcc 1 _ rfl
        have r1 := hcc' 1 _ rfl
        have q2 := hcc 2 _ rfl
        have r2 := hcc' 2 _ rfl
        simp only [Nat.add_zero] at q0 r0
        clear hcc hcc' hcl hcl' hx hz HP ha0 hb0
        have HST := Lib.hid hstep
        have HNO := Lib.hid hno
        clear hstep hno
        have k0 : (0 : Int) ≤ (k : Int) := by omega
        have k1 : (k : Int) < (n : Int) := by omega
        by_cases d0 : xid_ = zid_
        · subst d0
          by_cases d1 : xfolder_ = zfolder_
          · subst d1
            by_cases d2 : xtext_ = ztext_
            · subst d2
              have HS2 := Lib.hid (HST.out rfl)
              clear HST HNO
              go_wp2_with fail
              apply wp_region_rg (by kernel_rfl) (false :: false :: false :: false :: false :: false :: false :: false :: false :: false :: false :: false :: false :: false :: false :: false :: true :: true :: true :: true :: true :: true :: true :: true :: true :: false :: []) [some 16, some 17, some 18, some 19, some 20, some 21, some 22, some 23, some 24] [[], [], [0, 1], [2], [], [], [4, 5], [6], [3, 7]] [StP.is _, StP.is _, StP.is _, StP.is _, StP.is _, StP.is _, StP.is _, StP.is _, StP.is _] (by kernel_rfl)
              case hobs =>
                refine ⟨fun y w' hS hF K hK => ?_, ?_⟩
                · skip -- 0: move
                  simp only [fillL, cond_true, cond_false, List.getD_cons_zero, List.getD_cons_succ, StP.is, Act.put, List.setIfInBounds_toArray, List.set_cons_zero, List.set_cons_succ, Nat.reduceAdd] at hK ⊢
                  refine rg_yes (by kernel_rfl) ?_
                  clear hF
                  go_simp
                  exact hK _ _ (Ext.refl _) rfl
                refine ⟨fun y w' hS hF K hK => ?_, ?_⟩
                · skip -- 1: move
                  simp only [fillL, cond_true, cond_false, List.getD_cons_zero, List.getD_cons_succ, StP.is, Act.put, List.setIfInBounds_toArray, List.set_cons_zero, List.set_cons_succ, Nat.reduceAdd] at hK ⊢
                  refine rg_yes (by kernel_rfl) ?_
                  clear hF
                  go_simp
                  exact hK _ _ (Ext.refl _) rfl
                refine ⟨fun y w' hS hF K hK => ?_, ?_⟩
                · skip -- 2: indexAddr
                  have e16 : y 16 = _ := hF.1
                  have e17 : y 17 = _ := hF.2.1
                  simp only [fillL, cond_true, cond_false, List.getD_cons_zero, List.getD_cons_succ, StP.is, Act.put, List.setIfInBounds_toArray, List.set_cons_zero, List.set_cons_succ, Nat.reduceAdd, e16, e17] at hK ⊢
                  refine rg_yes (by kernel_rfl) ?_
                  clear e16 e17
                  clear hF
                  go_simp
                  exact hK _ _ (Ext.refl _) rfl
                refine ⟨fun y w' hS hF K hK => ?_, ?_⟩
                · skip -- 3: load
                  have e18 : y 18 = _ := hF.1
                  simp only [fillL, cond_true, cond_false, List.getD_cons_zero, List.getD_cons_succ, StP.is, Act.put, List.setIfInBounds_toArray, List.set_cons_zero, List.set_cons_succ, Nat.reduceAdd, e18] at hK ⊢
                  refine rg_yes (by kernel_rfl) ?_
                  have qx0_ := (Below.cell hS bl).trans q0
                  have qx1_ := (Below.cell hS bl).trans q1
                  have qx2_ := (Below.cell hS bl).trans q2
                  have qx3_ := (Below.cell hS bl').trans r0
                  have qx4_ := (Below.cell hS bl').trans r1
                  have qx5_ := (Below.cell hS bl').trans r2
                  clear e18
                  clear hF
                  go_simp
                  exact hK _ _ (Ext.refl _) rfl
                refine ⟨fun y w' hS hF K hK => ?_, ?_⟩
                · skip -- 4: move
                  simp only [fillL, cond_true, cond_false, List.getD_cons_zero, List.getD_cons_succ, StP.is, Act.put, List.setIfInBounds_toArray, List.set_cons_zero, List.set_cons_succ, Nat.reduceAdd] at hK ⊢
                  refine rg_yes (by kernel_rfl) ?_
                  clear hF
                  go_simp
                  exact hK _ _ (Ext.refl _) rfl
                refine ⟨fun y w' hS hF K hK => ?_, ?_⟩
                · skip -- 5: move
                  simp only [fillL, cond_true, cond_false, List.getD_cons_zero, List.getD_cons_succ, StP.is, Act.put, List.setIfInBounds_toArray, List.set_cons_zero, List.set_cons_succ, Nat.reduceAdd] at hK ⊢
                  refine rg_yes (by kernel_rfl) ?_
                  clear hF
                  go_simp
                  exact hK _ _ (Ext.refl _) rfl
                refine ⟨fun y w' hS hF K hK => ?_, ?_⟩
                · skip -- 6: indexAddr
                  have e20 : y 20 = _ := hF.1
                  have e21 : y 21 = _ := hF.2.1
                  simp only [fillL, cond_true, cond_false, List.getD_cons_zero, List.getD_cons_succ, StP.is, Act.put, List.setIfInBounds_toArray, List.set_cons_zero, List.set_cons_succ, Nat.reduceAdd, e20, e21] at hK ⊢
                  refine rg_yes (by kernel_rfl) ?_
                  clear e20 e21
                  clear hF
                  go_simp
                  exact hK _ _ (Ext.refl _) rfl
                refine ⟨fun y w' hS hF K hK => ?_, ?_⟩
                · skip -- 7: load
                  have e22 : y 22 = _ := hF.1
                  simp only [fillL, cond_true, cond_false, List.getD_cons_zero, List.getD_cons_succ, StP.is, Act.put, List.setIfInBounds_toArray, List.set_cons_zero, List.set_cons_succ, Nat.reduceAdd, e22] at hK ⊢
                  refine rg_yes (by kernel_rfl) ?_
                  have qx0_ := (Below.cell hS bl).trans q0
                  have qx1_ := (Below.cell hS bl).trans q1
                  have qx2_ := (Below.cell hS bl).trans q2
                  have qx3_ := (Below.cell hS bl').trans r0
                  have qx4_ := (Below.cell hS bl').trans r1
                  have qx5_ := (Below.cell hS bl').trans r2
                  clear e22
                  clear hF
                  go_simp
                  exact hK _ _ (Ext.refl _) rfl
                refine ⟨fun y w' hS hF K hK => ?_, ?_⟩
                · skip -- 8: binOp
                  have e19 : y 19 = _ := hF.1
                  have e23 : y 23 = _ := hF.2.1
                  simp only [fillL, cond_true, cond_false, List.getD_cons_zero, List.getD_cons_succ, StP.is, Act.put, List.setIfInBounds_toArray, List.set_cons_zero, List.set_cons_succ, Nat.reduceAdd, e19, e23] at hK ⊢
                  refine rg_yes (by kernel_rfl) ?_
                  clear e19 e23
                  clear hF
                  go_simp
                  exact hK _ _ (Ext.refl _) rfl
                trivial
              case hend =>
                intro y w2 hX hF
                have e24 : y 24 = _ := hF.2.2.2.2.2.2.2.2.1
                clear hF
                simp only [fillL, cond_true, cond_false, Nat.reduceAdd, e24]
                clear e24
                have hB2 : Below w.heap.size w w2 := hB.trans (Below.mono hX hB.size)
                clear hX
                go_wp2_with fail
                go_roundw
                case rel => exact ⟨k + 1, by omega, by go_num, HS2, hB2⟩
                case measure => simp [intOf]; omega
            · have HN2 := Lib.hid (HNO.out (by simp [d2]))
              have e2_ := str_ne d2
              clear HST HNO
              go_wp2_with fail
              apply wp_region_rg (by kernel_rfl) (false :: false :: false :: false :: false :: false :: false :: false :: false :: false :: false :: false :: false :: false :: false :: false :: true :: true :: true :: true :: true :: true :: true :: true :: true :: false :: []) [some 16, some 17, some 18, some 19, some 20, some 21, some 22, some 23, some 24] [[], [], [0, 1], [2], [], [], [4, 5], [6], [3, 7]] [StP.is _, StP.is _, StP.is _, StP.is _, StP.is _, StP.is _, StP.is _, StP.is _, StP.is _] (by kernel_rfl)
              case hobs =>
                refine ⟨fun y w' hS hF K hK => ?_, ?_⟩
                · skip -- 0: move
                  simp only [fillL, cond_true, cond_false, List.getD_cons_zero, List.getD_cons_succ, StP.is, Act.put, List.setIfInBounds_toArray, List.set_cons_zero, List.set_cons_succ, Nat.reduceAdd] at hK ⊢
                  refine rg_yes (by kernel_rfl) ?_
                  clear hF
                  go_simp
                  exact hK _ _ (Ext.refl _) rfl
                refine ⟨fun y w' hS hF K hK => ?_, ?_⟩
                · skip -- 1: move
                  simp only [fillL, cond_true, cond_false, List.getD_cons_zero, List.getD_cons_succ, StP.is, Act.put, List.setIfInBounds_toArray, List.set_cons_zero, List.set_cons_succ, Nat.reduceAdd] at hK ⊢
                  refine rg_yes (by kernel_rfl) ?_
                  clear hF
                  go_simp
                  exact hK _ _ (Ext.refl _) rfl
                refine ⟨fun y w' hS hF K hK => ?_, ?_⟩
                · skip -- 2: indexAddr
                  have e16 : y 16 = _ := hF.1
                  have e17 : y 17 = _ := hF.2.1
                  simp only [fillL, cond_true, cond_false, List.getD_cons_zero, List.getD_cons_succ, StP.is, Act.put, List.setIfInBounds_toArray, List.set_cons_zero, List.set_cons_succ, Nat.reduceAdd, e16, e17] at hK ⊢
                  refine rg_yes (by kernel_rfl) ?_
                  clear e16 e17
                  clear hF
                  go_simp
                  exact hK _ _ (Ext.refl _) rfl
                refine ⟨fun y w' hS hF K hK => ?_, ?_⟩
                · skip -- 3: load
                  have e18 : y 18 = _ := hF.1
                  simp only [fillL, cond_true, cond_false, List.getD_cons_zero, List.getD_cons_succ, StP.is, Act.put, List.setIfInBounds_toArray, List.set_cons_zero, List.set_cons_succ, Nat.reduceAdd, e18] at hK ⊢
                  refine rg_yes (by kernel_rfl) ?_
                  have qx0_ := (Below.cell hS bl).trans q0
                  have qx1_ := (Below.cell hS bl).trans q1
                  have qx2_ := (Below.cell hS bl).trans q2
                  have qx3_ := (Below.cell hS bl').trans r0
                  have qx4_ := (Below.cell hS bl').trans r1
                  have qx5_ := (Below.cell hS bl').trans r2
                  clear e18
                  clear hF
                  go_simp
                  exact hK _ _ (Ext.refl _) rfl
                refine ⟨fun y w' hS hF K hK => ?_, ?_⟩
                · skip -- 4: move
                  simp only [fillL, cond_true, cond_false, List.getD_cons_zero, List.getD_cons_succ, StP.is, Act.put, List.setIfInBounds_toArray, List.set_cons_zero, List.set_cons_succ, Nat.reduceAdd] at hK ⊢
                  refine rg_yes (by kernel_rfl) ?_
                  clear hF
                  go_simp
                  exact hK _ _ (Ext.refl _) rfl
                refine ⟨fun y w' hS hF K hK => ?_, ?_⟩
                · skip -- 5: move
                  simp only [fillL, cond_true, cond_false, List.getD_cons_zero, List.getD_cons_succ, StP.is, Act.put, List.setIfInBounds_toArray, List.set_cons_zero, List.set_cons_succ, Nat.reduceAdd] at hK ⊢
                  refine rg_yes (by kernel_rfl) ?_
                  clear hF
                  go_simp
                  exact hK _ _ (Ext.refl _) rfl
                refine ⟨fun y w' hS hF K hK => ?_, ?_⟩
                · skip -- 6: indexAddr
                  have e20 : y 20 = _ := hF.1
                  have e21 : y 21 = _ := hF.2.1
                  simp only [fillL, cond_true, cond_false, List.getD_cons_zero, List.getD_cons_succ, StP.is, Act.put, List.setIfInBounds_toArray, List.set_cons_zero, List.set_cons_succ, Nat.reduceAdd, e20, e21] at hK ⊢
                  refine rg_yes (by kernel_rfl) ?_
                  clear e20 e21
                  clear hF
                  go_simp
                  exact hK _ _ (Ext.refl _) rfl
                refine ⟨fun y w' hS hF K hK => ?_, ?_⟩
                · skip -- 7: load
                  have e22 : y 22 = _ := hF.1
                  simp only [fillL, cond_true, cond_false, List.getD_cons_zero, List.getD_cons_succ, StP.is, Act.put, List.setIfInBounds_toArray, List.set_cons_zero, List.set_cons_succ, Nat.reduceAdd, e22] at hK ⊢
                  refine rg_yes (by kernel_rfl) ?_
                  have qx0_ := (Below.cell hS bl).trans q0
                  have qx1_ := (Below.cell hS bl).trans q1
                  have qx2_ := (Below.cell hS bl).trans q2
                  have qx3_ := (Below.cell hS bl').trans r0
                  have qx4_ := (Below.cell hS bl').trans r1
                  have qx5_ := (Below.cell hS bl').trans r2
                  clear e22
                  clear hF
                  go_simp
                  exact hK _ _ (Ext.refl _) rfl
                refine ⟨fun y w' hS hF K hK => ?_, ?_⟩
                · skip -- 8: binOp
                  have e19 : y 19 = _ := hF.1
                  have e23 : y 23 = _ := hF.2.1
                  simp only [fillL, cond_true, cond_false, List.getD_cons_zero, List.getD_cons_succ, StP.is, Act.put, List.setIfInBounds_toArray, List.set_cons_zero, List.set_cons_succ, Nat.reduceAdd, e19, e23] at hK ⊢
                  refine rg_yes (by kernel_rfl) ?_
                  clear e19 e23
                  clear hF
                  go_simp
                  exact hK _ _ (Ext.refl _) rfl
                trivial
              case hend =>
                intro y w2 hX hF
                have e24 : y 24 = _ := hF.2.2.2.2.2.2.2.2.1
                clear hF
                simp only [fillL, cond_true, cond_false, Nat.reduceAdd, e24]
                clear e24
                have hB2 : Below w.heap.size w w2 := hB.trans (Below.mono hX hB.size)
                clear hX
                go_wp2_with fail
                go_ret
                exact ⟨ret_bool HN2.out.symm, hB2⟩
          · have HN2 := Lib.hid (HNO.out (by simp [d1]))
            skip
            clear HST HNO
            go_wp2_with fail
            apply wp_region_rg (by kernel_rfl) (false :: false :: false :: false :: false :: false :: false :: false :: false :: false :: false :: false :: false :: false :: false :: false :: true :: true :: true :: true :: true :: true :: true :: true :: true :: false :: []) [some 16, some 17, some 18, some 19, some 20, some 21, some 22, some 23, some 24] [[], [], [0, 1], [2], [], [], [4, 5], [6], [3, 7]] [StP.is _, StP.is _, StP.is _, StP.is _, StP.is _, StP.is _, StP.is _, StP.is _, StP.is _] (by kernel_rfl)
            case hobs =>
              refine ⟨fun y w' hS hF K hK => ?_, ?_⟩
              · skip -- 0: move
                simp only [fillL, cond_true, cond_false, List.getD_cons_zero, List.getD_cons_succ, StP.is, Act.put, List.setIfInBounds_toArray, List.set_cons_zero, List.set_cons_succ, Nat.reduceAdd] at hK ⊢
                refine rg_yes (by kernel_rfl) ?_
                clear hF
                go_simp
                exact hK _ _ (Ext.refl _) rfl
              refine ⟨fun y w' hS hF K hK => ?_, ?_⟩
              · skip -- 1: move
                simp only [fillL, cond_true, cond_false, List.getD_cons_zero, List.getD_cons_succ, StP.is, Act.put, List.setIfInBounds_toArray, List.set_cons_zero, List.set_cons_succ, Nat.reduceAdd] at hK ⊢
                refine rg_yes (by kernel_rfl) ?_
                clear hF
                go_simp
                exact hK _ _ (Ext.refl _) rfl
              refine ⟨fun y w' hS hF K hK => ?_, ?_⟩
              · skip -- 2: indexAddr
                have e16 : y 16 = _ := hF.1
                have e17 : y 17 = _ := hF.2.1
                simp only [fillL, cond_true, cond_false, List.getD_cons_zero, List.getD_cons_succ, StP.is, Act.put, List.setIfInBounds_toArray, List.set_cons_zero, List.set_cons_succ, Nat.reduceAdd, e16, e17] at hK ⊢
                refine rg_yes (by kernel_rfl) ?_
                clear e16 e17
                clear hF
                go_simp
                exact hK _ _ (Ext.refl _) rfl
              refine ⟨fun y w' hS hF K hK => ?_, ?_⟩
              · skip -- 3: load
                have e18 : y 18 = _ := hF.1
                simp only [fillL, cond_true, cond_false, List.getD_cons_zero, List.getD_cons_succ, StP.is, Act.put, List.setIfInBounds_toArray, List.set_cons_zero, List.set_cons_succ, Nat.reduceAdd, e18] at hK ⊢
                refine rg_yes (by kernel_rfl) ?_
                have qx0_ := (Below.cell hS bl).trans q0
                have qx1_ := (Below.cell hS bl).trans q1
                have qx2_ := (Below.cell hS bl).trans q2
                have qx3_ := (Below.cell hS bl').trans r0
                have qx4_ := (Below.cell hS bl').trans r1
                have qx5_ := (Below.cell hS bl').trans r2
                clear e18
                clear hF
                go_simp
                exact hK _ _ (Ext.refl _) rfl
              refine ⟨fun y w' hS hF K hK => ?_, ?_⟩
              · skip -- 4: move
                simp only [fillL, cond_true, cond_false, List.getD_cons_zero, List.getD_cons_succ, StP.is, Act.put, List.setIfInBounds_toArray, List.set_cons_zero, List.set_cons_succ, Nat.reduceAdd] at hK ⊢
                refine rg_yes (by kernel_rfl) ?_
                clear hF
                go_simp
                exact hK _ _ (Ext.refl _) rfl
              refine ⟨fun y w' hS hF K hK => ?_, ?_⟩
              · skip -- 5: move
                simp only [fillL, cond_true, cond_false, List.getD_cons_zero, List.getD_cons_succ, StP.is, Act.put, List.setIfInBounds_toArray, List.set_cons_zero, List.set_cons_succ, Nat.reduceAdd] at hK ⊢
                refine rg_yes (by kernel_rfl) ?_
                clear hF
                go_simp
                exact hK _ _ (Ext.refl _) rfl
              refine ⟨fun y w' hS hF K hK => ?_, ?_⟩
              · skip -- 6: indexAddr
                have e20 : y 20 = _ := hF.1
                have e21 : y 21 = _ := hF.2.1
                simp only [fillL, cond_true, cond_false, List.getD_cons_zero, List.getD_cons_succ, StP.is, Act.put, List.setIfInBounds_toArray, List.set_cons_zero, List.set_cons_succ, Nat.reduceAdd, e20, e21] at hK ⊢
                refine rg_yes (by kernel_rfl) ?_
                clear e20 e21
                clear hF
                go_simp
                exact hK _ _ (Ext.refl _) rfl
              refine ⟨fun y w' hS hF K hK => ?_, ?_⟩
              · skip -- 7: load
                have e22 : y 22 = _ := hF.1
                simp only [fillL, cond_true, cond_false, List.getD_cons_zero, List.getD_cons_succ, StP.is, Act.put, List.setIfInBounds_toArray, List.set_cons_zero, List.set_cons_succ, Nat.reduceAdd, e22] at hK ⊢
                refine rg_yes (by kernel_rfl) ?_
                have qx0_ := (Below.cell hS bl).trans q0
                have qx1_ := (Below.cell hS bl).trans q1
                have qx2_ := (Below.cell hS bl).trans q2
                have qx3_ := (Below.cell hS bl').trans r0
                have qx4_ := (Below.cell hS bl').trans r1
                have qx5_ := (Below.cell hS bl').trans r2
                clear e22
                clear hF
                go_simp
                exact hK _ _ (Ext.refl _) rfl
              refine ⟨fun y w' hS hF K hK => ?_, ?_⟩
              · skip -- 8: binOp
                have e19 : y 19 = _ := hF.1
                have e23 : y 23 = _ := hF.2.1
                simp only [fillL, cond_true, cond_false, List.getD_cons_zero, List.getD_cons_succ, StP.is, Act.put, List.setIfInBounds_toArray, List.set_cons_zero, List.set_cons_succ, Nat.reduceAdd, e19, e23] at hK ⊢
                refine rg_yes (by kernel_rfl) ?_
                clear e19 e23
                clear hF
                go_simp
                exact hK _ _ (Ext.refl _) rfl
              trivial
            case hend =>
              intro y w2 hX hF
              have e24 : y 24 = _ := hF.2.2.2.2.2.2.2.2.1
              clear hF
              simp only [fillL, cond_true, cond_false, Nat.reduceAdd, e24]
              clear e24
              have hB2 : Below w.heap.size w w2 := hB.trans (Below.mono hX hB.size)
              clear hX
              go_wp2_with fail
              go_ret
              exact ⟨ret_bool HN2.out.symm, hB2⟩
        · have HN2 := Lib.hid (HNO.out (by simp [d0]))
          skip
          clear HST HNO
          go_wp2_with fail
          apply wp_region_rg (by kernel_rfl) (false :: false :: false :: false :: false :: false :: false :: false :: false :: false :: false :: false :: false :: false :: false :: false :: true :: true :: true :: true :: true :: true :: true :: true :: true :: false :: []) [some 16, some 17, some 18, some 19, some 20, some 21, some 22, some 23, some 24] [[], [], [0, 1], [2], [], [], [4, 5], [6], [3, 7]] [StP.is _, StP.is _, StP.is _, StP.is _, StP.is _, StP.is _, StP.is _, StP.is _, StP.is _] (by kernel_rfl)
          case hobs =>
            refine ⟨fun y w' hS hF K hK => ?_, ?_⟩
            · skip -- 0: move
              simp only [fillL, cond_true, cond_false, List.getD_cons_zero, List.getD_cons_succ, StP.is, Act.put, List.setIfInBounds_toArray, List.set_cons_zero, List.set_cons_succ, Nat.reduceAdd] at hK ⊢
              refine rg_yes (by kernel_rfl) ?_
              clear hF
              go_simp
              exact hK _ _ (Ext.refl _) rfl
            refine ⟨fun y w' hS hF K hK => ?_, ?_⟩
            · skip -- 1: move
              simp only [fillL, cond_true, cond_false, List.getD_cons_zero, List.getD_cons_succ, StP.is, Act.put, List.setIfInBounds_toArray, List.set_cons_zero, List.set_cons_succ, Nat.reduceAdd] at hK ⊢
              refine rg_yes (by kernel_rfl) ?_
              clear hF
              go_simp
              exact hK _ _ (Ext.refl _) rfl
            refine ⟨fun y w' hS hF K hK => ?_, ?_⟩
            · skip -- 2: indexAddr
              have e16 : y 16 = _ := hF.1
              have e17 : y 17 = _ := hF.2.1
              simp only [fillL, cond_true, cond_false, List.getD_cons_zero, List.getD_cons_succ, StP.is, Act.put, List.setIfInBounds_toArray, List.set_cons_zero, List.set_cons_succ, Nat.reduceAdd, e16, e17] at hK ⊢
              refine rg_yes (by kernel_rfl) ?_
              clear e16 e17
              clear hF
              go_simp
              exact hK _ _ (Ext.refl _) rfl
            refine ⟨fun y w' hS hF K hK => ?_, ?_⟩
            · skip -- 3: load
              have e18 : y 18 = _ := hF.1
              simp only [fillL, cond_true, cond_false, List.getD_cons_zero, List.getD_cons_succ, StP.is, Act.put, List.setIfInBounds_toArray, List.set_cons_zero, List.set_cons_succ, Nat.reduceAdd, e18] at hK ⊢
              refine rg_yes (by kernel_rfl) ?_
              have qx0_ := (Below.cell hS bl).trans q0
              have qx1_ := (Below.cell hS bl).trans q1
              have qx2_ := (Below.cell hS bl).trans q2
              have qx3_ := (Below.cell hS bl').trans r0
              have qx4_ := (Below.cell hS bl').trans r1
              have qx5_ := (Below.cell hS bl').trans r2
              clear e18
              clear hF
              go_simp
              exact hK _ _ (Ext.refl _) rfl
            refine ⟨fun y w' hS hF K hK => ?_, ?_⟩
            · skip -- 4: move
              simp only [fillL, cond_true, cond_false, List.getD_cons_zero, List.getD_cons_succ, StP.is, Act.put, List.setIfInBounds_toArray, List.set_cons_zero, List.set_cons_succ, Nat.reduceAdd] at hK ⊢
              refine rg_yes (by kernel_rfl) ?_
              clear hF
              go_simp
              exact hK _ _ (Ext.refl _) rfl
            refine ⟨fun y w' hS hF K hK => ?_, ?_⟩
            · skip -- 5: move
              simp only [fillL, cond_true, cond_false, List.getD_cons_zero, List.getD_cons_succ, StP.is, Act.put, List.setIfInBounds_toArray, List.set_cons_zero, List.set_cons_succ, Nat.reduceAdd] at hK ⊢
              refine rg_yes (by kernel_rfl) ?_
              clear hF
              go_simp
              exact hK _ _ (Ext.refl _) rfl
            refine ⟨fun y w' hS hF K hK => ?_, ?_⟩
            · skip -- 6: indexAddr
              have e20 : y 20 = _ := hF.1
              have e21 : y 21 = _ := hF.2.1
              simp only [fillL, cond_true, cond_false, List.getD_cons_zero, List.getD_cons_succ, StP.is, Act.put, List.setIfInBounds_toArray, List.set_cons_zero, List.set_cons_succ, Nat.reduceAdd, e20, e21] at hK ⊢
              refine rg_yes (by kernel_rfl) ?_
              clear e20 e21
              clear hF
              go_simp
              exact hK _ _ (Ext.refl _) rfl
            refine ⟨fun y w' hS hF K hK => ?_, ?_⟩
            · skip -- 7: load
              have e22 : y 22 = _ := hF.1
              simp only [fillL, cond_true, cond_false, List.getD_cons_zero, List.getD_cons_succ, StP.is, Act.put, List.setIfInBounds_toArray, List.set_cons_zero, List.set_cons_succ, Nat.reduceAdd, e22] at hK ⊢
              refine rg_yes (by kernel_rfl) ?_
              have qx0_ := (Below.cell hS bl).trans q0
              have qx1_ := (Below.cell hS bl).trans q1
              have qx2_ := (Below.cell hS bl).trans q2
              have qx3_ := (Below.cell hS bl').trans r0
              have qx4_ := (Below.cell hS bl').trans r1
              have qx5_ := (Below.cell hS bl').trans r2
              clear e22
              clear hF
              go_simp
              exact hK _ _ (Ext.refl _) rfl
            refine ⟨fun y w' hS hF K hK => ?_, ?_⟩
            · skip -- 8: binOp
              have e19 : y 19 = _ := hF.1
              have e23 : y 23 = _ := hF.2.1
              simp only [fillL, cond_true, cond_false, List.getD_cons_zero, List.getD_cons_succ, StP.is, Act.put, List.setIfInBounds_toArray, List.set_cons_zero, List.set_cons_succ, Nat.reduceAdd, e19, e23] at hK ⊢
              refine rg_yes (by kernel_rfl) ?_
              clear e19 e23
              clear hF
              go_simp
              exact hK _ _ (Ext.refl _) rfl
            trivial
          case hend =>
            intro y w2 hX hF
            have e24 : y 24 = _ := hF.2.2.2.2.2.2.2.2.1
            clear hF
            simp only [fillL, cond_true, cond_false, Nat.reduceAdd, e24]
            clear e24
            have hB2 : Below w.heap.size w w2 := hB.trans (Below.mono hX hB.size)
            clear hX
            go_wp2_with fail
            go_ret
            exact ⟨ret_bool HN2.out.symm, hB2⟩
      · obtain rfl : k = n := by omega
        have hf := Lib.hid (same_all HP.out HL.out HL'.out)
        go_wp2_with fail
        go_ret
        exact ⟨ret_bool hf.out.symm, hB⟩
  · have e2 : ((n : Int) != m) = true := by simp; omega
    have hf := Lib.hid (same_len (xs := xs) (ys := ys) (by rw [HL.out, HL'.out]; exact hnm))
    clear hnm
    go_enter Try.func69, Try.ntmps69
    go_wp2_with fail
    go_ret
    exact ⟨ret_bool hf.out.symm, Below.refl _ _⟩

set_option maxRecDepth 100000 in
set_option maxHeartbeats 4000000 in
theorem slicesEqualPtr_any (A B : Option Addr) (n c m d : Nat) (xs ys : List PtrD) (w : World) (lo hi lo' hi' : Nat) (h : SliceR PtrR 5 w lo hi A n c xs) (h' : SliceR PtrR 5 w lo' hi' B m d ys) :
    Calls Try.prog 105 #[.slice A n c, .slice B m d] w fun e w' => e = .returned (.bool (same xs ys)) ∧ Below w.heap.size w w' := by
  have hn := h.max
  have hm := h'.max
  have HL := Lib.hid h.len
  have HL' := Lib.hid h'.len
  have H := Lib.hid h
  have H' := Lib.hid h'
  clear h h'
  by_cases hnm : n = m
  · subst hnm
    go_enter Try.func105, Try.ntmps105
    go_wp2_with fail
    go_loopw [5, 13] (fun s5 s13 wr => ∃ k : Nat, k ≤ n ∧ s13 = .int .i64 k ∧ Hid (∀ j, j < k → xs[j]? = ys[j]?) ∧ Below w.heap.size w wr) (fun _ s13 _ => n - (intOf s13).toNat)
    case atStart => exact ⟨0, Nat.zero_le _, rfl, Lib.hid (fun j hj => absurd hj (by omega)), Below.refl _ _⟩
    case round =>
      obtain ⟨k, hk, rfl, HP, hB⟩ := hrel
      by_cases hlt : k < n
      · obtain ⟨x, hx⟩ : ∃ x, xs[k]? = some x := ⟨xs[k]'(by rw [HL.out]; exact hlt), List.getElem?_eq_getElem _⟩
        obtain ⟨z, hz⟩ : ∃ z, ys[k]? = some z := ⟨ys[k]'(by rw [HL'.out]; exact hlt), List.getElem?_eq_getElem _⟩
        obtain ⟨b, off, rfl, _, _, bl, hc⟩ := (SliceR.below H.out hB (PtrR.below hB H.out.lo_le)).at_ (by omega)
        obtain ⟨b', off', rfl, _, _, bl', hc'⟩ := (SliceR.below H'.out hB (PtrR.below hB H'.out.lo_le)).at_ (by omega)
        obtain ⟨cs, hcl, hcc, hr⟩ := hc k x hx
        obtain ⟨cs', hcl', hcc', hr'⟩ := hc' k z hz
        clear hc hc'
        have hstep := same_step HP.out hx hz
        have hno := same_no hx hz
        obtain ⟨xat_, xbirth_, xsize_, xsum_, xlevel_⟩ := x
        obtain ⟨zat_, zbirth_, zsize_, zsum_, zlevel_⟩ := z
        obtain rfl := hr
        obtain rfl := hr'
        have q0 := hcc 0 _ rfl
        have r0 := hcc' 0 _ rfl
        have q1 := hcc 1 _ rfl
        have r1 := hcc' 1 _ rfl
        have q2 := hcc 2 _ rfl
        have r2 := hcc' 2 _ rfl
        have q3 := hcc 3 _ rfl
        have r3 := hcc' 3 _ rfl
        have q4 := hcc 4 _ rfl
        have r4 := hcc' 4 _ rfl
        simp only [Nat.add_zero] at q0 r0
        clear hcc hcc' hcl hcl' hx hz HP 
        have HST := Lib.hid hstep
        have HNO := Lib.hid hno
        clear hstep hno
        have k0 : (0 : Int) ≤ (k : Int) := by omega
        have k1 : (k : Int) < (n : Int) := by omega
        by_cases d0 : xat_ = zat_
        · subst d0
          by_cases d1 : xbirth_ = zbirth_
          · subst d1
            by_cases d2 : xsize_ = zsize_
            · subst d2
              by_cases d3 : xsum_ = zsum_
              · subst d3
                by_cases d4 : xlevel_ = zlevel_
                · subst d4
                  have HS2 := Lib.hid (HST.out rfl)
                  clear HST HNO
                  go_wp2_with fail
                  apply wp_region_rg (by kernel_rfl) (false :: false :: false :: false :: false :: false :: false :: false :: false :: false :: false :: false :: false :: false :: false :: false :: true :: true :: true :: true :: true :: true :: true :: true :: true :: false :: []) [some 16, some 17, some 18, some 19, some 20, some 21, some 22, some 23, some 24] [[], [], [0, 1], [2], [], [], [4, 5], [6], [3, 7]] [StP.is _, StP.is _, StP.is _, StP.is _, StP.is _, StP.is _, StP.is _, StP.is _, StP.is _] (by kernel_rfl)
                  case hobs =>
                    refine ⟨fun y w' hS hF K hK => ?_, ?_⟩
                    · skip -- 0: move
                      simp only [fillL, cond_true, cond_false, List.getD_cons_zero, List.getD_cons_succ, StP.is, Act.put, List.setIfInBounds_toArray, List.set_cons_zero, List.set_cons_succ, Nat.reduceAdd] at hK ⊢
                      refine rg_yes (by kernel_rfl) ?_
                      clear hF
                      go_simp
                      exact hK _ _ (Ext.refl _) rfl
                    refine ⟨fun y w' hS hF K hK => ?_, ?_⟩
                    · skip -- 1: move
                      simp only [fillL, cond_true, cond_false, List.getD_cons_zero, List.getD_cons_succ, StP.is, Act.put, List.setIfInBounds_toArray, List.set_cons_zero, List.set_cons_succ, Nat.reduceAdd] at hK ⊢
                      refine rg_yes (by kernel_rfl) ?_
                      clear hF
                      go_simp
                      exact hK _ _ (Ext.refl _) rfl
                    refine ⟨fun y w' hS hF K hK => ?_, ?_⟩
                    · skip -- 2: indexAddr
                      have e16 : y 16 = _ := hF.1
                      have e17 : y 17 = _ := hF.2.1
                      simp only [fillL, cond_true, cond_false, List.getD_cons_zero, List.getD_cons_succ, StP.is, Act.put, List.setIfInBounds_toArray, List.set_cons_zero, List.set_cons_succ, Nat.reduceAdd, e16, e17] at hK ⊢
                      refine rg_yes (by kernel_rfl) ?_
                      clear e16 e17
                      clear hF
                      go_simp
                      exact hK _ _ (Ext.refl _) rfl
                    refine ⟨fun y w' hS hF K hK => ?_, ?_⟩
                    · skip -- 3: load
                      have e18 : y 18 = _ := hF.1
                      simp only [fillL, cond_true, cond_false, List.getD_cons_zero, List.getD_cons_succ, StP.is, Act.put, List.setIfInBounds_toArray, List.set_cons_zero, List.set_cons_succ, Nat.reduceAdd, e18] at hK ⊢
                      refine rg_yes (by kernel_rfl) ?_
                      have qx0_ := (Below.cell hS bl).trans q0
                      have qx1_ := (Below.cell hS bl).trans q1
                      have qx2_ := (Below.cell hS bl).trans q2
                      have qx3_ := (Below.cell hS bl).trans q3
                      have qx4_ := (Below.cell hS bl).trans q4
                      have qx5_ := (Below.cell hS bl').trans r0
                      have qx6_ := (Below.cell hS bl').trans r1
                      have qx7_ := (Below.cell hS bl').trans r2
                      have qx8_ := (Below.cell hS bl').trans r3
                      have qx9_ := (Below.cell hS bl').trans r4
                      clear e18
                      clear hF
                      go_simp
                      exact hK _ _ (Ext.refl _) rfl
                    refine ⟨fun y w' hS hF K hK => ?_, ?_⟩
                    · skip -- 4: move
                      simp only [fillL, cond_true, cond_false, List.getD_cons_zero, List.getD_cons_succ, StP.is, Act.put, List.setIfInBounds_toArray, List.set_cons_zero, List.set_cons_succ, Nat.reduceAdd] at hK ⊢
                      refine rg_yes (by kernel_rfl) ?_
                      clear hF
                      go_simp
                      exact hK _ _ (Ext.refl _) rfl
                    refine ⟨fun y w' hS hF K hK => ?_, ?_⟩
                    · skip -- 5: move
                      simp only [fillL, cond_true, cond_false, List.getD_cons_zero, List.getD_cons_succ, StP.is, Act.put, List.setIfInBounds_toArray, List.set_cons_zero, List.set_cons_succ, Nat.reduceAdd] at hK ⊢
                      refine rg_yes (by kernel_rfl) ?_
                      clear hF
                      go_simp
                      exact hK _ _ (Ext.refl _) rfl
                    refine ⟨fun y w' hS hF K hK => ?_, ?_⟩
                    · skip -- 6: indexAddr
                      have e20 : y 20 = _ := hF.1
                      have e21 : y 21 = _ := hF.2.1
                      simp only [fillL, cond_true, cond_false, List.getD_cons_zero, List.getD_cons_succ, StP.is, Act.put, List.setIfInBounds_toArray, List.set_cons_zero, List.set_cons_succ, Nat.reduceAdd, e20, e21] at hK ⊢
                      refine rg_yes (by kernel_rfl) ?_
                      clear e20 e21
                      clear hF
                      go_simp
                      exact hK _ _ (Ext.refl _) rfl
                    refine ⟨fun y w' hS hF K hK => ?_, ?_⟩
                    · skip -- 7: load
                      have e22 : y 22 = _ := hF.1
                      simp only [fillL, cond_true, cond_false, List.getD_cons_zero, List.getD_cons_succ, StP.is, Act.put, List.setIfInBounds_toArray, List.set_cons_zero, List.set_cons_succ, Nat.reduceAdd, e22] at hK ⊢
                      refine rg_yes (by kernel_rfl) ?_
                      have qx0_ := (Below.cell hS bl).trans q0
                      have qx1_ := (Below.cell hS bl).trans q1
                      have qx2_ := (Below.cell hS bl).trans q2
                      have qx3_ := (Below.cell hS bl).trans q3
                      have qx4_ := (Below.cell hS bl).trans q4
                      have qx5_ := (Below.cell hS bl').trans r0
                      have qx6_ := (Below.cell hS bl').trans r1
                      have qx7_ := (Below.cell hS bl').trans r2
                      have qx8_ := (Below.cell hS bl').trans r3
                      have qx9_ := (Below.cell hS bl').trans r4
                      clear e22
                      clear hF
                      go_simp
                      exact hK _ _ (Ext.refl _) rfl
                    refine ⟨fun y w' hS hF K hK => ?_, ?_⟩
                    · skip -- 8: binOp
                      have e19 : y 19 = _ := hF.1
                      have e23 : y 23 = _ := hF.2.1
                      simp only [fillL, cond_true, cond_false, List.getD_cons_zero, List.getD_cons_succ, StP.is, Act.put, List.setIfInBounds_toArray, List.set_cons_zero, List.set_cons_succ, Nat.reduceAdd, e19, e23] at hK ⊢
                      refine rg_yes (by kernel_rfl) ?_
                      clear e19 e23
                      clear hF
                      go_simp
                      exact hK _ _ (Ext.refl _) rfl
                    trivial
                  case hend =>
                    intro y w2 hX hF
                    have e24 : y 24 = _ := hF.2.2.2.2.2.2.2.2.1
                    clear hF
                    simp only [fillL, cond_true, cond_false, Nat.reduceAdd, e24]
                    clear e24
                    have hB2 : Below w.heap.size w w2 := hB.trans (Below.mono hX hB.size)
                    clear hX
                    go_wp2_with fail
                    go_roundw
                    case rel => exact ⟨k + 1, by omega, by go_num, HS2, hB2⟩
                    case measure => simp [intOf]; omega
                · have HN2 := Lib.hid (HNO.out (by simp [d4]))
                  skip
                  clear HST HNO
                  go_wp2_with fail
                  apply wp_region_rg (by kernel_rfl) (false :: false :: false :: false :: false :: false :: false :: false :: false :: false :: false :: false :: false :: false :: false :: false :: true :: true :: true :: true :: true :: true :: true :: true :: true :: false :: []) [some 16, some 17, some 18, some 19, some 20, some 21, some 22, some 23, some 24] [[], [], [0, 1], [2], [], [], [4, 5], [6], [3, 7]] [StP.is _, StP.is _, StP.is _, StP.is _, StP.is _, StP.is _, StP.is _, StP.is _, StP.is _] (by kernel_rfl)
                  case hobs =>
                    refine ⟨fun y w' hS hF K hK => ?_, ?_⟩
                    · skip -- 0: move
                      simp only [fillL, cond_true, cond_false, List.getD_cons_zero, List.getD_cons_succ, StP.is, Act.put, List.setIfInBounds_toArray, List.set_cons_zero, List.set_cons_succ, Nat.reduceAdd] at hK ⊢
                      refine rg_yes (by kernel_rfl) ?_
                      clear hF
                      go_simp
                      exact hK _ _ (Ext.refl _) rfl
                    refine ⟨fun y w' hS hF K hK => ?_, ?_⟩
                    · skip -- 1: move
                      simp only [fillL, cond_true, cond_false, List.getD_cons_zero, List.getD_cons_succ, StP.is, Act.put, List.setIfInBounds_toArray, List.set_cons_zero, List.set_cons_succ, Nat.reduceAdd] at hK ⊢
                      refine rg_yes (by kernel_rfl) ?_
                      clear hF
                      go_simp
                      exact hK _ _ (Ext.refl _) rfl
                    refine ⟨fun y w' hS hF K hK => ?_, ?_⟩
                    · skip -- 2: indexAddr
                      have e16 : y 16 = _ := hF.1
                      have e17 : y 17 = _ := hF.2.1
                      simp only [fillL, cond_true, cond_false, List.getD_cons_zero, List.getD_cons_succ, StP.is, Act.put, List.setIfInBounds_toArray, List.set_cons_zero, List.set_cons_succ, Nat.reduceAdd, e16, e17] at hK ⊢
                      refine rg_yes (by kernel_rfl) ?_
                      clear e16 e17
                      clear hF
                      go_simp
                      exact hK _ _ (Ext.refl _) rfl
                    refine ⟨fun y w' hS hF K hK => ?_, ?_⟩
                    · skip -- 3: load
                      have e18 : y 18 = _ := hF.1
                      simp only [fillL, cond_true, cond_false, List.getD_cons_zero, List.getD_cons_succ, StP.is, Act.put, List.setIfInBounds_toArray, List.set_cons_zero, List.set_cons_succ, Nat.reduceAdd, e18] at hK ⊢
                      refine rg_yes (by kernel_rfl) ?_
                      have qx0_ := (Below.cell hS bl).trans q0
                      have qx1_ := (Below.cell hS bl).trans q1
                      have qx2_ := (Below.cell hS bl).trans q2
                      have qx3_ := (Below.cell hS bl).trans q3
                      have qx4_ := (Below.cell hS bl).trans q4
                      have qx5_ := (Below.cell hS bl').trans r0
                      have qx6_ := (Below.cell hS bl').trans r1
                      have qx7_ := (Below.cell hS bl').trans r2
                      have qx8_ := (Below.cell hS bl').trans r3
                      have qx9_ := (Below.cell hS bl').trans r4
                      clear e18
                      clear hF
                      go_simp
                      exact hK _ _ (Ext.refl _) rfl
                    refine ⟨fun y w' hS hF K hK => ?_, ?_⟩
                    · skip -- 4: move
                      simp only [fillL, cond_true, cond_false, List.getD_cons_zero, List.getD_cons_succ, StP.is, Act.put, List.setIfInBounds_toArray, List.set_cons_zero, List.set_cons_succ, Nat.reduceAdd] at hK ⊢
                      refine rg_yes (by kernel_rfl) ?_
                      clear hF
                      go_simp
                      exact hK _ _ (Ext.refl _) rfl
                    refine ⟨fun y w' hS hF K hK => ?_, ?_⟩
                    · skip -- 5: move
                      simp only [fillL, cond_true, cond_false, List.getD_cons_zero, List.getD_cons_succ, StP.is, Act.put, List.setIfInBounds_toArray, List.set_cons_zero, List.set_cons_succ, Nat.reduceAdd] at hK ⊢
                      refine rg_yes (by kernel_rfl) ?_
                      clear hF
                      go_simp
                      exact hK _ _ (Ext.refl _) rfl
                    refine ⟨fun y w' hS hF K hK => ?_, ?_⟩
                    · skip -- 6: indexAddr
                      have e20 : y 20 = _ := hF.1
                      have e21 : y 21 = _ := hF.2.1
                      simp only [fillL, cond_true, cond_false, List.getD_cons_zero, List.getD_cons_succ, StP.is, Act.put, List.setIfInBounds_toArray, List.set_cons_zero, List.set_cons_succ, Nat.reduceAdd, e20, e21] at hK ⊢
                      refine rg_yes (by kernel_rfl) ?_
                      clear e20 e21
                      clear hF
                      go_simp
                      exact hK _ _ (Ext.refl _) rfl
                    refine ⟨fun y w' hS hF K hK => ?_, ?_⟩
                    · skip -- 7: load
                      have e22 : y 22 = _ := hF.1
                      simp only [fillL, cond_true, cond_false, List.getD_cons_zero, List.getD_cons_succ, StP.is, Act.put, List.setIfInBounds_toArray, List.set_cons_zero, List.set_cons_succ, Nat.reduceAdd, e22] at hK ⊢
                      refine rg_yes (by kernel_rfl) ?_
                      have qx0_ := (Below.cell hS bl).trans q0
                      have qx1_ := (Below.cell hS bl).trans q1
                      have qx2_ := (Below.cell hS bl).trans q2
                      have qx3_ := (Below.cell hS bl).trans q3
                      have qx4_ := (Below.cell hS bl).trans q4
                      have qx5_ := (Below.cell hS bl').trans r0
                      have qx6_ := (Below.cell hS bl').trans r1
                      have qx7_ := (Below.cell hS bl').trans r2
                      have qx8_ := (Below.cell hS bl').trans r3
                      have qx9_ := (Below.cell hS bl').trans r4
                      clear e22
                      clear hF
                      go_simp
                      exact hK _ _ (Ext.refl _) rfl
                    refine ⟨fun y w' hS hF K hK => ?_, ?_⟩
                    · skip -- 8: binOp
                      have e19 : y 19 = _ := hF.1
                      have e23 : y 23 = _ := hF.2.1
                      simp only [fillL, cond_true, cond_false, List.getD_cons_zero, List.getD_cons_succ, StP.is, Act.put, List.setIfInBounds_toArray, List.set_cons_zero, List.set_cons_succ, Nat.reduceAdd, e19, e23] at hK ⊢
                      refine rg_yes (by kernel_rfl) ?_
                      clear e19 e23
                      clear hF
                      go_simp
                      exact hK _ _ (Ext.refl _) rfl
                    trivial
                  case hend =>
                    intro y w2 hX hF
                    have e24 : y 24 = _ := hF.2.2.2.2.2.2.2.2.1
                    clear hF
                    simp only [fillL, cond_true, cond_false, Nat.reduceAdd, e24]
                    clear e24
                    have hB2 : Below w.heap.size w w2 := hB.trans (Below.mono hX hB.size)
                    clear hX
                    go_wp2_with fail
                    go_ret
                    exact ⟨ret_bool HN2.out.symm, hB2⟩
              · have HN2 := Lib.hid (HNO.out (by simp [d3]))
                skip
                clear HST HNO
                go_wp2_with fail
                apply wp_region_rg (by kernel_rfl) (false :: false :: false :: false :: false :: false :: false :: false :: false :: false :: false :: false :: false :: false :: false :: false :: true :: true :: true :: true :: true :: true :: true :: true :: true :: false :: []) [some 16, some 17, some 18, some 19, some 20, some 21, some 22, some 23, some 24] [[], [], [0, 1], [2], [], [], [4, 5], [6], [3, 7]] [StP.is _, StP.is _, StP.is _, StP.is _, StP.is _, StP.is _, StP.is _, StP.is _, StP.is _] (by kernel_rfl)
                case hobs =>
                  refine ⟨fun y w' hS hF K hK => ?_, ?_⟩
                  · skip -- 0: move
                    simp only [fillL, cond_true, cond_false, List.getD_cons_zero, List.getD_cons_succ, StP.is, Act.put, List.setIfInBounds_toArray, List.set_cons_zero, List.set_cons_succ, Nat.reduceAdd] at hK ⊢
                    refine rg_yes (by kernel_rfl) ?_
                    clear hF
                    go_simp
                    exact hK _ _ (Ext.refl _) rfl
                  refine ⟨fun y w' hS hF K hK => ?_, ?_⟩
                  · skip -- 1: move
                    simp only [fillL, cond_true, cond_false, List.getD_cons_zero, List.getD_cons_succ, StP.is, Act.put, List.setIfInBounds_toArray, List.set_cons_zero, List.set_cons_succ, Nat.reduceAdd] at hK ⊢
                    refine rg_yes (by kernel_rfl) ?_
                    clear hF
                    go_simp
                    exact hK _ _ (Ext.refl _) rfl
                  refine ⟨fun y w' hS hF K hK => ?_, ?_⟩
                  · skip -- 2: indexAddr
                    have e16 : y 16 = _ := hF.1
                    have e17 : y 17 = _ := hF.2.1
                    simp only [fillL, cond_true, cond_false, List.getD_cons_zero, List.getD_cons_succ, StP.is, Act.put, List.setIfInBounds_toArray, List.set_cons_zero, List.set_cons_succ, Nat.reduceAdd, e16, e17] at hK ⊢
                    refine rg_yes (by kernel_rfl) ?_
                    clear e16 e17
                    clear hF
                    go_simp
                    exact hK _ _ (Ext.refl _) rfl
                  refine ⟨fun y w' hS hF K hK => ?_, ?_⟩
                  · skip -- 3: load
                    have e18 : y 18 = _ := hF.1
                    simp only [fillL, cond_true, cond_false, List.getD_cons_zero, List.getD_cons_succ, StP.is, Act.put, List.setIfInBounds_toArray, List.set_cons_zero, List.set_cons_succ, Nat.reduceAdd, e18] at hK ⊢
                    refine rg_yes (by kernel_rfl) ?_
                    have qx0_ := (Below.cell hS bl).trans q0
                    have qx1_ := (Below.cell hS bl).trans q1
                    have qx2_ := (Below.cell hS bl).trans q2
                    have qx3_ := (Below.cell hS bl).trans q3
                    have qx4_ := (Below.cell hS bl).trans q4
                    have qx5_ := (Below.cell hS bl').trans r0
                    have qx6_ := (Below.cell hS bl').trans r1
                    have qx7_ := (Below.cell hS bl').trans r2
                    have qx8_ := (Below.cell hS bl').trans r3
                    have qx9_ := (Below.cell hS bl').trans r4
                    clear e18
                    clear hF
                    go_simp
                    exact hK _ _ (Ext.refl _) rfl
                  refine ⟨fun y w' hS hF K hK => ?_, ?_⟩
                  · skip -- 4: move
                    simp only [fillL, cond_true, cond_false, List.getD_cons_zero, List.getD_cons_succ, StP.is, Act.put, List.setIfInBounds_toArray, List.set_cons_zero, List.set_cons_succ, Nat.reduceAdd] at hK ⊢
                    refine rg_yes (by kernel_rfl) ?_
                    clear hF
                    go_simp
                    exact hK _ _ (Ext.refl _) rfl
                  refine ⟨fun y w' hS hF K hK => ?_, ?_⟩
                  · skip -- 5: move
                    simp only [fillL, cond_true, cond_false, List.getD_cons_zero, List.getD_cons_succ, StP.is, Act.put, List.setIfInBounds_toArray, List.set_cons_zero, List.set_cons_succ, Nat.reduceAdd] at hK ⊢
                    refine rg_yes (by kernel_rfl) ?_
                    clear hF
                    go_simp
                    exact hK _ _ (Ext.refl _) rfl
                  refine ⟨fun y w' hS hF K hK => ?_, ?_⟩
                  · skip -- 6: indexAddr
                    have e20 : y 20 = _ := hF.1
                    have e21 : y 21 = _ := hF.2.1
                    simp only [fillL, cond_true, cond_false, List.getD_cons_zero, List.getD_cons_succ, StP.is, Act.put, List.setIfInBounds_toArray, List.set_cons_zero, List.set_cons_succ, Nat.reduceAdd, e20, e21] at hK ⊢
                    refine rg_yes (by kernel_rfl) ?_
                    clear e20 e21
                    clear hF
                    go_simp
                    exact hK _ _ (Ext.refl _) rfl
                  refine ⟨fun y w' hS hF K hK => ?_, ?_⟩
                  · skip -- 7: load
                    have e22 : y 22 = _ := hF.1
                    simp only [fillL, cond_true, cond_false, List.getD_cons_zero, List.getD_cons_succ, StP.is, Act.put, List.setIfInBounds_toArray, List.set_cons_zero, List.set_cons_succ, Nat.reduceAdd, e22] at hK ⊢
                    refine rg_yes (by kernel_rfl) ?_
                    have qx0_ := (Below.cell hS bl).trans q0
                    have qx1_ := (Below.cell hS bl).trans q1
                    have qx2_ := (Below.cell hS bl).trans q2
                    have qx3_ := (Below.cell hS bl).trans q3
                    have qx4_ := (Below.cell hS bl).trans q4
                    have qx5_ := (Below.cell hS bl').trans r0
                    have qx6_ := (Below.cell hS bl').trans r1
                    have qx7_ := (Below.cell hS bl').trans r2
                    have qx8_ := (Below.cell hS bl').trans r3
                    have qx9_ := (Below.cell hS bl').trans r4
                    clear e22
                    clear hF
                    go_simp
                    exact hK _ _ (Ext.refl _) rfl
                  refine ⟨fun y w' hS hF K hK => ?_, ?_⟩
                  · skip -- 8: binOp
                    have e19 : y 19 = _ := hF.1
                    have e23 : y 23 = _ := hF.2.1
                    simp only [fillL, cond_true, cond_false, List.getD_cons_zero, List.getD_cons_succ, StP.is, Act.put, List.setIfInBounds_toArray, List.set_cons_zero, List.set_cons_succ, Nat.reduceAdd, e19, e23] at hK ⊢
                    refine rg_yes (by kernel_rfl) ?_
                    clear e19 e23
                    clear hF
                    go_simp
                    exact hK _ _ (Ext.refl _) rfl
                  trivial
                case hend =>
                  intro y w2 hX hF
                  have e24 : y 24 = _ := hF.2.2.2.2.2.2.2.2.1
                  clear hF
                  simp only [fillL, cond_true, cond_false, Nat.reduceAdd, e24]
                  clear e24
                  have hB2 : Below w.heap.size w w2 := hB.trans (Below.mono hX hB.size)
                  clear hX
                  go_wp2_with fail
                  go_ret
                  exact ⟨ret_bool HN2.out.symm, hB2⟩
            · have HN2 := Lib.hid (HNO.out (by simp [d2]))
              skip
              clear HST HNO
              go_wp2_with fail
              apply wp_region_rg (by kernel_rfl) (false :: false :: false :: false :: false :: false :: false :: false :: false :: false :: false :: false :: false :: false :: false :: false :: true :: true :: true :: true :: true :: true :: true :: true :: true :: false :: []) [some 16, some 17, some 18, some 19, some 20, some 21, some 22, some 23, some 24] [[], [], [0, 1], [2], [], [], [4, 5], [6], [3, 7]] [StP.is _, StP.is _, StP.is _, StP.is _, StP.is _, StP.is _, StP.is _, StP.is _, StP.is _] (by kernel_rfl)
              case hobs =>
                refine ⟨fun y w' hS hF K hK => ?_, ?_⟩
                · skip -- 0: move
                  simp only [fillL, cond_true, cond_false, List.getD_cons_zero, List.getD_cons_succ, StP.is, Act.put, List.setIfInBounds_toArray, List.set_cons_zero, List.set_cons_succ, Nat.reduceAdd] at hK ⊢
                  refine rg_yes (by kernel_rfl) ?_
                  clear hF
                  go_simp
                  exact hK _ _ (Ext.refl _) rfl
                refine ⟨fun y w' hS hF K hK => ?_, ?_⟩
                · skip -- 1: move
                  simp only [fillL, cond_true, cond_false, List.getD_cons_zero, List.getD_cons_succ, StP.is, Act.put, List.setIfInBounds_toArray, List.set_cons_zero, List.set_cons_succ, Nat.reduceAdd] at hK ⊢
                  refine rg_yes (by kernel_rfl) ?_
                  clear hF
                  go_simp
                  exact hK _ _ (Ext.refl _) rfl
                refine ⟨fun y w' hS hF K hK => ?_, ?_⟩
                · skip -- 2: indexAddr
                  have e16 : y 16 = _ := hF.1
                  have e17 : y 17 = _ := hF.2.1
                  simp only [fillL, cond_true, cond_false, List.getD_cons_zero, List.getD_cons_succ, StP.is, Act.put, List.setIfInBounds_toArray, List.set_cons_zero, List.set_cons_succ, Nat.reduceAdd, e16, e17] at hK ⊢
                  refine rg_yes (by kernel_rfl) ?_
                  clear e16 e17
                  clear hF
                  go_simp
                  exact hK _ _ (Ext.refl _) rfl
                refine ⟨fun y w' hS hF K hK => ?_, ?_⟩
                · skip -- 3: load
                  have e18 : y 18 = _ := hF.1
                  simp only [fillL, cond_true, cond_false, List.getD_cons_zero, List.getD_cons_succ, StP.is, Act.put, List.setIfInBounds_toArray, List.set_cons_zero, List.set_cons_succ, Nat.reduceAdd, e18] at hK ⊢
                  refine rg_yes (by kernel_rfl) ?_
                  have qx0_ := (Below.cell hS bl).trans q0
                  have qx1_ := (Below.cell hS bl).trans q1
                  have qx2_ := (Below.cell hS bl).trans q2
                  have qx3_ := (Below.cell hS bl).trans q3
                  have qx4_ := (Below.cell hS bl).trans q4
                  have qx5_ := (Below.cell hS bl').trans r0
                  have qx6_ := (Below.cell hS bl').trans r1
                  have qx7_ := (Below.cell hS bl').trans r2
                  have qx8_ := (Below.cell hS bl').trans r3
                  have qx9_ := (Below.cell hS bl').trans r4
                  clear e18
                  clear hF
                  go_simp
                  exact hK _ _ (Ext.refl _) rfl
                refine ⟨fun y w' hS hF K hK => ?_, ?_⟩
                · skip -- 4: move
                  simp only [fillL, cond_true, cond_false, List.getD_cons_zero, List.getD_cons_succ, StP.is, Act.put, List.setIfInBounds_toArray, List.set_cons_zero, List.set_cons_succ, Nat.reduceAdd] at hK ⊢
                  refine rg_yes (by kernel_rfl) ?_
                  clear hF
                  go_simp
                  exact hK _ _ (Ext.refl _) rfl
                refine ⟨fun y w' hS hF K hK => ?_, ?_⟩
                · skip -- 5: move
                  simp only [fillL, cond_true, cond_false, List.getD_cons_zero, List.getD_cons_succ, StP.is, Act.put, List.setIfInBounds_toArray, List.set_cons_zero, List.set_cons_succ, Nat.reduceAdd] at hK ⊢
                  refine rg_yes (by kernel_rfl) ?_
                  clear hF
                  go_simp
                  exact hK _ _ (Ext.refl _) rfl
                refine ⟨fun y w' hS hF K hK => ?_, ?_⟩
                · skip -- 6: indexAddr
                  have e20 : y 20 = _ := hF.1
                  have e21 : y 21 = _ := hF.2.1
                  simp only [fillL, cond_true, cond_false, List.getD_cons_zero, List.getD_cons_succ, StP.is, Act.put, List.setIfInBounds_toArray, List.set_cons_zero, List.set_cons_succ, Nat.reduceAdd, e20, e21] at hK ⊢
                  refine rg_yes (by kernel_rfl) ?_
                  clear e20 e21
                  clear hF
                  go_simp
                  exact hK _ _ (Ext.refl _) rfl
                refine ⟨fun y w' hS hF K hK => ?_, ?_⟩
                · skip -- 7: load
                  have e22 : y 22 = _ := hF.1
                  simp only [fillL, cond_true, cond_false, List.getD_cons_zero, List.getD_cons_succ, StP.is, Act.put, List.setIfInBounds_toArray, List.set_cons_zero, List.set_cons_succ, Nat.reduceAdd, e22] at hK ⊢
                  refine rg_yes (by kernel_rfl) ?_
                  have qx0_ := (Below.cell hS bl).trans q0
                  have qx1_ := (Below.cell hS bl).trans q1
                  have qx2_ := (Below.cell hS bl).trans q2
                  have qx3_ := (Below.cell hS bl).trans q3
                  have qx4_ := (Below.cell hS bl).trans q4
                  have qx5_ := (Below.cell hS bl').trans r0
                  have qx6_ := (Below.cell hS bl').trans r1
                  have qx7_ := (Below.cell hS bl').trans r2
                  have qx8_ := (Below.cell hS bl').trans r3
                  have qx9_ := (Below.cell hS bl').trans r4
                  clear e22
                  clear hF
                  go_simp
                  exact hK _ _ (Ext.refl _) rfl
                refine ⟨fun y w' hS hF K hK => ?_, ?_⟩
                · skip -- 8: binOp
                  have e19 : y 19 = _ := hF.1
                  have e23 : y 23 = _ := hF.2.1
                  simp only [fillL, cond_true, cond_false, List.getD_cons_zero, List.getD_cons_succ, StP.is, Act.put, List.setIfInBounds_toArray, List.set_cons_zero, List.set_cons_succ, Nat.reduceAdd, e19, e23] at hK ⊢
                  refine rg_yes (by kernel_rfl) ?_
                  clear e19 e23
                  clear hF
                  go_simp
                  exact hK _ _ (Ext.refl _) rfl
                trivial
              case hend =>
                intro y w2 hX hF
                have e24 : y 24 = _ := hF.2.2.2.2.2.2.2.2.1
                clear hF
                simp only [fillL, cond_true, cond_false, Nat.reduceAdd, e24]
                clear e24
                have hB2 : Below w.heap.size w w2 := hB.trans (Below.mono hX hB.size)
                clear hX
                go_wp2_with fail
                go_ret
                exact ⟨ret_bool HN2.out.symm, hB2⟩
          · have HN2 := Lib.hid (HNO.out (by simp [d1]))
            skip
            clear HST HNO
            go_wp2_with fail
            apply wp_region_rg (by kernel_rfl) (false :: false :: false :: false :: false :: false :: false :: false :: false :: false :: false :: false :: false :: false :: false :: false :: true :: true :: true :: true :: true :: true :: true :: true :: true :: false :: []) [some 16, some 17, some 18, some 19, some 20, some 21, some 22, some 23, some 24] [[], [], [0, 1], [2], [], [], [4, 5], [6], [3, 7]] [StP.is _, StP.is _, StP.is _, StP.is _, StP.is _, StP.is _, StP.is _, StP.is _, StP.is _] (by kernel_rfl)
            case hobs =>
              refine ⟨fun y w' hS hF K hK => ?_, ?_⟩
              · skip -- 0: move
                simp only [fillL, cond_true, cond_false, List.getD_cons_zero, List.getD_cons_succ, StP.is, Act.put, List.setIfInBounds_toArray, List.set_cons_zero, List.set_cons_succ, Nat.reduceAdd] at hK ⊢
                refine rg_yes (by kernel_rfl) ?_
                clear hF
                go_simp
                exact hK _ _ (Ext.refl _) rfl
              refine ⟨fun y w' hS hF K hK => ?_, ?_⟩
              · skip -- 1: move
                simp only [fillL, cond_true, cond_false, List.getD_cons_zero, List.getD_cons_succ, StP.is, Act.put, List.setIfInBounds_toArray, List.set_cons_zero, List.set_cons_succ, Nat.reduceAdd] at hK ⊢
                refine rg_yes (by kernel_rfl) ?_
                clear hF
                go_simp
                exact hK _ _ (Ext.refl _) rfl
              refine ⟨fun y w' hS hF K hK => ?_, ?_⟩
              · skip -- 2: indexAddr
                have e16 : y 16 = _ := hF.1
                have e17 : y 17 = _ := hF.2.1
                simp only [fillL, cond_true, cond_false, List.getD_cons_zero, List.getD_cons_succ, StP.is, Act.put, List.setIfInBounds_toArray, List.set_cons_zero, List.set_cons_succ, Nat.reduceAdd, e16, e17] at hK ⊢
                refine rg_yes (by kernel_rfl) ?_
                clear e16 e17
                clear hF
                go_simp
                exact hK _ _ (Ext.refl _) rfl
              refine ⟨fun y w' hS hF K hK => ?_, ?_⟩
              · skip -- 3: load
                have e18 : y 18 = _ := hF.1
                simp only [fillL, cond_true, cond_false, List.getD_cons_zero, List.getD_cons_succ, StP.is, Act.put, List.setIfInBounds_toArray, List.set_cons_zero, List.set_cons_succ, Nat.reduceAdd, e18] at hK ⊢
                refine rg_yes (by kernel_rfl) ?_
                have qx0_ := (Below.cell hS bl).trans q0
                have qx1_ := (Below.cell hS bl).trans q1
                have qx2_ := (Below.cell hS bl).trans q2
                have qx3_ := (Below.cell hS bl).trans q3
                have qx4_ := (Below.cell hS bl).trans q4
                have qx5_ := (Below.cell hS bl').trans r0
                have qx6_ := (Below.cell hS bl').trans r1
                have qx7_ := (Below.cell hS bl').trans r2
                have qx8_ := (Below.cell hS bl').trans r3
                have qx9_ := (Below.cell hS bl').trans r4
                clear e18
                clear hF
                go_simp
                exact hK _ _ (Ext.refl _) rfl
              refine ⟨fun y w' hS hF K hK => ?_, ?_⟩
              · skip -- 4: move
                simp only [fillL, cond_true, cond_false, List.getD_cons_zero, List.getD_cons_succ, StP.is, Act.put, List.setIfInBounds_toArray, List.set_cons_zero, List.set_cons_succ, Nat.reduceAdd] at hK ⊢
                refine rg_yes (by kernel_rfl) ?_
                clear hF
                go_simp
                exact hK _ _ (Ext.refl _) rfl
              refine ⟨fun y w' hS hF K hK => ?_, ?_⟩
              · skip -- 5: move
                simp only [fillL, cond_true, cond_false, List.getD_cons_zero, List.getD_cons_succ, StP.is, Act.put, List.setIfInBounds_toArray, List.set_cons_zero, List.set_cons_succ, Nat.reduceAdd] at hK ⊢
                refine rg_yes (by kernel_rfl) ?_
                clear hF
                go_simp
                exact hK _ _ (Ext.refl _) rfl
              refine ⟨fun y w' hS hF K hK => ?_, ?_⟩
              · skip -- 6: indexAddr
                have e20 : y 20 = _ := hF.1
                have e21 : y 21 = _ := hF.2.1
                simp only [fillL, cond_true, cond_false, List.getD_cons_zero, List.getD_cons_succ, StP.is, Act.put, List.setIfInBounds_toArray, List.set_cons_zero, List.set_cons_succ, Nat.reduceAdd, e20, e21] at hK ⊢
                refine rg_yes (by kernel_rfl) ?_
                clear e20 e21
                clear hF
                go_simp
                exact hK _ _ (Ext.refl _) rfl
              refine ⟨fun y w' hS hF K hK => ?_, ?_⟩
              · skip -- 7: load
                have e22 : y 22 = _ := hF.1
                simp only [fillL, cond_true, cond_false, List.getD_cons_zero, List.getD_cons_succ, StP.is, Act.put, List.setIfInBounds_toArray, List.set_cons_zero, List.set_cons_succ, Nat.reduceAdd, e22] at hK ⊢
                refine rg_yes (by kernel_rfl) ?_
                have qx0_ := (Below.cell hS bl).trans q0
                have qx1_ := (Below.cell hS bl).trans q1
                have qx2_ := (Below.cell hS bl).trans q2
                have qx3_ := (Below.cell hS bl).trans q3
                have qx4_ := (Below.cell hS bl).trans q4
                have qx5_ := (Below.cell hS bl').trans r0
                have qx6_ := (Below.cell hS bl').trans r1
                have qx7_ := (Below.cell hS bl').trans r2
                have qx8_ := (Below.cell hS bl').trans r3
                have qx9_ := (Below.cell hS bl').trans r4
                clear e22
                clear hF
                go_simp
                exact hK _ _ (Ext.refl _) rfl
              refine ⟨fun y w' hS hF K hK => ?_, ?_⟩
              · skip -- 8: binOp
                have e19 : y 19 = _ := hF.1
                have e23 : y 23 = _ := hF.2.1
                simp only [fillL, cond_true, cond_false, List.getD_cons_zero, List.getD_cons_succ, StP.is, Act.put, List.setIfInBounds_toArray, List.set_cons_zero, List.set_cons_succ, Nat.reduceAdd, e19, e23] at hK ⊢
                refine rg_yes (by kernel_rfl) ?_
                clear e19 e23
                clear hF
                go_simp
                exact hK _ _ (Ext.refl _) rfl
              trivial
            case hend =>
              intro y w2 hX hF
              have e24 : y 24 = _ := hF.2.2.2.2.2.2.2.2.1
              clear hF
              simp only [fillL, cond_true, cond_false, Nat.reduceAdd, e24]
              clear e24
              have hB2 : Below w.heap.size w w2 := hB.trans (Below.mono hX hB.size)
              clear hX
              go_wp2_with fail
              go_ret
              exact ⟨ret_bool HN2.out.symm, hB2⟩
        · have HN2 := Lib.hid (HNO.out (by simp [d0]))
          skip
          clear HST HNO
          go_wp2_with fail
          apply wp_region_rg (by kernel_rfl) (false :: false :: false :: false :: false :: false :: false :: false :: false :: false :: false :: false :: false :: false :: false :: false :: true :: true :: true :: true :: true :: true :: true :: true :: true :: false :: []) [some 16, some 17, some 18, some 19, some 20, some 21, some 22, some 23, some 24] [[], [], [0, 1], [2], [], [], [4, 5], [6], [3, 7]] [StP.is _, StP.is _, StP.is _, StP.is _, StP.is _, StP.is _, StP.is _, StP.is _, StP.is _] (by kernel_rfl)
          case hobs =>
            refine ⟨fun y w' hS hF K hK => ?_, ?_⟩
            · skip -- 0: move
              simp only [fillL, cond_true, cond_false, List.getD_cons_zero, List.getD_cons_succ, StP.is, Act.put, List.setIfInBounds_toArray, List.set_cons_zero, List.set_cons_succ, Nat.reduceAdd] at hK ⊢
              refine rg_yes (by kernel_rfl) ?_
              clear hF
              go_simp
              exact hK _ _ (Ext.refl _) rfl
            refine ⟨fun y w' hS hF K hK => ?_, ?_⟩
            · skip -- 1: move
              simp only [fillL, cond_true, cond_false, List.getD_cons_zero, List.getD_cons_succ, StP.is, Act.put, List.setIfInBounds_toArray, List.set_cons_zero, List.set_cons_succ, Nat.reduceAdd] at hK ⊢
              refine rg_yes (by kernel_rfl) ?_
              clear hF
              go_simp
              exact hK _ _ (Ext.refl _) rfl
            refine ⟨fun y w' hS hF K hK => ?_, ?_⟩
            · skip -- 2: indexAddr
              have e16 : y 16 = _ := hF.1
              have e17 : y 17 = _ := hF.2.1
              simp only [fillL, cond_true, cond_false, List.getD_cons_zero, List.getD_cons_succ, StP.is, Act.put, List.setIfInBounds_toArray, List.set_cons_zero, List.set_cons_succ, Nat.reduceAdd, e16, e17] at hK ⊢
              refine rg_yes (by kernel_rfl) ?_
              clear e16 e17
              clear hF
              go_simp
              exact hK _ _ (Ext.refl _) rfl
            refine ⟨fun y w' hS hF K hK => ?_, ?_⟩
            · skip -- 3: load
              have e18 : y 18 = _ := hF.1
              simp only [fillL, cond_true, cond_false, List.getD_cons_zero, List.getD_cons_succ, StP.is, Act.put, List.setIfInBounds_toArray, List.set_cons_zero, List.set_cons_succ, Nat.reduceAdd, e18] at hK ⊢
              refine rg_yes (by kernel_rfl) ?_
              have qx0_ := (Below.cell hS bl).trans q0
              have qx1_ := (Below.cell hS bl).trans q1
              have qx2_ := (Below.cell hS bl).trans q2
              have qx3_ := (Below.cell hS bl).trans q3
              have qx4_ := (Below.cell hS bl).trans q4
              have qx5_ := (Below.cell hS bl').trans r0
              have qx6_ := (Below.cell hS bl').trans r1
              have qx7_ := (Below.cell hS bl').trans r2
              have qx8_ := (Below.cell hS bl').trans r3
              have qx9_ := (Below.cell hS bl').trans r4
              clear e18
              clear hF
              go_simp
              exact hK _ _ (Ext.refl _) rfl
            refine ⟨fun y w' hS hF K hK => ?_, ?_⟩
            · skip -- 4: move
              simp only [fillL, cond_true, cond_false, List.getD_cons_zero, List.getD_cons_succ, StP.is, Act.put, List.setIfInBounds_toArray, List.set_cons_zero, List.set_cons_succ, Nat.reduceAdd] at hK ⊢
              refine rg_yes (by kernel_rfl) ?_
              clear hF
              go_simp
              exact hK _ _ (Ext.refl _) rfl
            refine ⟨fun y w' hS hF K hK => ?_, ?_⟩
            · skip -- 5: move
              simp only [fillL, cond_true, cond_false, List.getD_cons_zero, List.getD_cons_succ, StP.is, Act.put, List.setIfInBounds_toArray, List.set_cons_zero, List.set_cons_succ, Nat.reduceAdd] at hK ⊢
              refine rg_yes (by kernel_rfl) ?_
              clear hF
              go_simp
              exact hK _ _ (Ext.refl _) rfl
            refine ⟨fun y w' hS hF K hK => ?_, ?_⟩
            · skip -- 6: indexAddr
              have e20 : y 20 = _ := hF.1
              have e21 : y 21 = _ := hF.2.1
              simp only [fillL, cond_true, cond_false, List.getD_cons_zero, List.getD_cons_succ, StP.is, Act.put, List.setIfInBounds_toArray, List.set_cons_zero, List.set_cons_succ, Nat.reduceAdd, e20, e21] at hK ⊢
              refine rg_yes (by kernel_rfl) ?_
              clear e20 e21
              clear hF
              go_simp
              exact hK _ _ (Ext.refl _) rfl
            refine ⟨fun y w' hS hF K hK => ?_, ?_⟩
            · skip -- 7: load
              have e22 : y 22 = _ := hF.1
              simp only [fillL, cond_true, cond_false, List.getD_cons_zero, List.getD_cons_succ, StP.is, Act.put, List.setIfInBounds_toArray, List.set_cons_zero, List.set_cons_succ, Nat.reduceAdd, e22] at hK ⊢
              refine rg_yes (by kernel_rfl) ?_
              have qx0_ := (Below.cell hS bl).trans q0
              have qx1_ := (Below.cell hS bl).trans q1
              have qx2_ := (Below.cell hS bl).trans q2
              have qx3_ := (Below.cell hS bl).trans q3
              have qx4_ := (Below.cell hS bl).trans q4
              have qx5_ := (Below.cell hS bl').trans r0
              have qx6_ := (Below.cell hS bl').trans r1
              have qx7_ := (Below.cell hS bl').trans r2
              have qx8_ := (Below.cell hS bl').trans r3
              have qx9_ := (Below.cell hS bl').trans r4
              clear e22
              clear hF
              go_simp
              exact hK _ _ (Ext.refl _) rfl
            refine ⟨fun y w' hS hF K hK => ?_, ?_⟩
            · skip -- 8: binOp
              have e19 : y 19 = _ := hF.1
              have e23 : y 23 = _ := hF.2.1
              simp only [fillL, cond_true, cond_false, List.getD_cons_zero, List.getD_cons_succ, StP.is, Act.put, List.setIfInBounds_toArray, List.set_cons_zero, List.set_cons_succ, Nat.reduceAdd, e19, e23] at hK ⊢
              refine rg_yes (by kernel_rfl) ?_
              clear e19 e23
              clear hF
              go_simp
              exact hK _ _ (Ext.refl _) rfl
            trivial
          case hend =>
            intro y w2 hX hF
            have e24 : y 24 = _ := hF.2.2.2.2.2.2.2.2.1
            clear hF
            simp only [fillL, cond_true, cond_false, Nat.reduceAdd, e24]
            clear e24
            have hB2 : Below w.heap.size w w2 := hB.trans (Below.mono hX hB.size)
            clear hX
            go_wp2_with fail
            go_ret
            exact ⟨ret_bool HN2.out.symm, hB2⟩
      · obtain rfl : k = n := by omega
        have hf := Lib.hid (same_all HP.out HL.out HL'.out)
        go_wp2_with fail
        go_ret
        exact ⟨ret_bool hf.out.symm, hB⟩
  · have e2 : ((n : Int) != m) = true := by simp; omega
    have hf := Lib.hid (same_len (xs := xs) (ys := ys) (by rw [HL.out, HL'.out]; exact hnm))
    clear hnm
    go_enter Try.func105, Try.ntmps105
    go_wp2_with fail
    go_ret
    exact ⟨ret_bool hf.out.symm, Below.refl _ _⟩

set_option maxRecDepth 100000 in
set_option maxHeartbeats 4000000 in
theorem l21Ptrs_any (A B : Option Addr) (n c m d : Nat) (xs ys : List PtrD) (w : World) (lo hi lo' hi' : Nat) (h : SliceR PtrR 5 w lo hi A n c xs) (h' : SliceR PtrR 5 w lo' hi' B m d ys) :
    Calls Try.prog 74 #[.slice A n c, .slice B m d] w fun e w' => e = .returned (.bool (same xs ys)) ∧ Below w.heap.size w w' := by
  have hn := h.max
  have hm := h'.max
  have HL := Lib.hid h.len
  have HL' := Lib.hid h'.len
  have H := Lib.hid h
  have H' := Lib.hid h'
  clear h h'
  by_cases hnm : n = m
  · subst hnm
    go_enter Try.func74, Try.ntmps74
    go_wp2_with fail
    go_loopw [5] (fun s5 wr => ∃ k : Nat, k ≤ n ∧ s5 = .int .i64 k ∧ Hid (∀ j, j < k → xs[j]? = ys[j]?) ∧ Below w.heap.size w wr) (fun s5 _ => n - (intOf s5).toNat)
    case atStart => exact ⟨0, Nat.zero_le _, rfl, Lib.hid (fun j hj => absurd hj (by omega)), Below.refl _ _⟩
    case round =>
      obtain ⟨k, hk, rfl, HP, hB⟩ := hrel
      by_cases hlt : k < n
      · obtain ⟨x, hx⟩ : ∃ x, xs[k]? = some x := ⟨xs[k]'(by rw [HL.out]; exact hlt), List.getElem?_eq_getElem _⟩
        obtain ⟨z, hz⟩ : ∃ z, ys[k]? = some z := ⟨ys[k]'(by rw [HL'.out]; exact hlt), List.getElem?_eq_getElem _⟩
        obtain ⟨b, off, rfl, _, _, bl, hc⟩ := (SliceR.below H.out hB (PtrR.below hB H.out.lo_le)).at_ (by omega)
        obtain ⟨b', off', rfl, _, _, bl', hc'⟩ := (SliceR.below H'.out hB (PtrR.below hB H'.out.lo_le)).at_ (by omega)
        obtain ⟨cs, hcl, hcc, hr⟩ := hc k x hx
        obtain ⟨cs', hcl', hcc', hr'⟩ := hc' k z hz
        clear hc hc'
        have hstep := same_step HP.out hx hz
        have hno := same_no hx hz
        obtain ⟨xat_, xbirth_, xsize_, xsum_, xlevel_⟩ := x
        obtain ⟨zat_, zbirth_, zsize_, zsum_, zlevel_⟩ := z
        obtain rfl := hr
        obtain rfl := hr'
        have q0 := hcc 0 _ rfl
        have r0 := hcc' 0 _ rfl
        have q1 := hcc 1 _ rfl
        have r1 := hcc' 1 _ rfl
        have q2 := hcc 2 _ rfl
        have r2 := hcc' 2 _ rfl
        have q3 := hcc 3 _ rfl
        have r3 := hcc' 3 _ rfl
        have q4 := hcc 4 _ rfl
        have r4 := hcc' 4 _ rfl
        simp only [Nat.add_zero] at q0 r0
        clear hcc hcc' hcl hcl' hx hz HP 
        have HST := Lib.hid hstep
        have HNO := Lib.hid hno
        clear hstep hno
        have k0 : (0 : Int) ≤ (k : Int) := by omega
        have k1 : (k : Int) < (n : Int) := by omega
        by_cases d0 : xat_ = zat_
        · subst d0
          by_cases d1 : xbirth_ = zbirth_
          · subst d1
            by_cases d2 : xsize_ = zsize_
            · subst d2
              by_cases d3 : xsum_ = zsum_
              · subst d3
                by_cases d4 : xlevel_ = zlevel_
                · subst d4
                  have HS2 := Lib.hid (HST.out rfl)
                  clear HST HNO
                  go_wp2_with fail
                  apply wp_region_rg (by kernel_rfl) (false :: false :: false :: false :: false :: false :: false :: false :: false :: false :: false :: false :: false :: false :: false :: false :: false :: true :: true :: true :: true :: true :: true :: true :: true :: true :: []) [some 17, some 18, some 19, some 20, some 21, some 22, some 23, some 24, some 25] [[], [], [0, 1], [2], [], [], [4, 5], [6], [3, 7]] [StP.is _, StP.is _, StP.is _, StP.is _, StP.is _, StP.is _, StP.is _, StP.is _, StP.is _] (by kernel_rfl)
                  case hobs =>
                    refine ⟨fun y w' hS hF K hK => ?_, ?_⟩
                    · skip -- 0: move
                      simp only [fillL, cond_true, cond_false, List.getD_cons_zero, List.getD_cons_succ, StP.is, Act.put, List.setIfInBounds_toArray, List.set_cons_zero, List.set_cons_succ, Nat.reduceAdd] at hK ⊢
                      refine rg_yes (by kernel_rfl) ?_
                      clear hF
                      go_simp
                      exact hK _ _ (Ext.refl _) rfl
                    refine ⟨fun y w' hS hF K hK => ?_, ?_⟩
                    · skip -- 1: move
                      simp only [fillL, cond_true, cond_false, List.getD_cons_zero, List.getD_cons_succ, StP.is, Act.put, List.setIfInBounds_toArray, List.set_cons_zero, List.set_cons_succ, Nat.reduceAdd] at hK ⊢
                      refine rg_yes (by kernel_rfl) ?_
                      clear hF
                      go_simp
                      exact hK _ _ (Ext.refl _) rfl
                    refine ⟨fun y w' hS hF K hK => ?_, ?_⟩
                    · skip -- 2: indexAddr
                      have e17 : y 17 = _ := hF.1
                      have e18 : y 18 = _ := hF.2.1
                      simp only [fillL, cond_true, cond_false, List.getD_cons_zero, List.getD_cons_succ, StP.is, Act.put, List.setIfInBounds_toArray, List.set_cons_zero, List.set_cons_succ, Nat.reduceAdd, e17, e18] at hK ⊢
                      refine rg_yes (by kernel_rfl) ?_
                      clear e17 e18
                      clear hF
                      go_simp
                      exact hK _ _ (Ext.refl _) rfl
                    refine ⟨fun y w' hS hF K hK => ?_, ?_⟩
                    · skip -- 3: load
                      have e19 : y 19 = _ := hF.1
                      simp only [fillL, cond_true, cond_false, List.getD_cons_zero, List.getD_cons_succ, StP.is, Act.put, List.setIfInBounds_toArray, List.set_cons_zero, List.set_cons_succ, Nat.reduceAdd, e19] at hK ⊢
                      refine rg_yes (by kernel_rfl) ?_
                      have qx0_ := (Below.cell hS bl).trans q0
                      have qx1_ := (Below.cell hS bl).trans q1
                      have qx2_ := (Below.cell hS bl).trans q2
                      have qx3_ := (Below.cell hS bl).trans q3
                      have qx4_ := (Below.cell hS bl).trans q4
                      have qx5_ := (Below.cell hS bl').trans r0
                      have qx6_ := (Below.cell hS bl').trans r1
                      have qx7_ := (Below.cell hS bl').trans r2
                      have qx8_ := (Below.cell hS bl').trans r3
                      have qx9_ := (Below.cell hS bl').trans r4
                      clear e19
                      clear hF
                      go_simp
                      exact hK _ _ (Ext.refl _) rfl
                    refine ⟨fun y w' hS hF K hK => ?_, ?_⟩
                    · skip -- 4: move
                      simp only [fillL, cond_true, cond_false, List.getD_cons_zero, List.getD_cons_succ, StP.is, Act.put, List.setIfInBounds_toArray, List.set_cons_zero, List.set_cons_succ, Nat.reduceAdd] at hK ⊢
                      refine rg_yes (by kernel_rfl) ?_
                      clear hF
                      go_simp
                      exact hK _ _ (Ext.refl _) rfl
                    refine ⟨fun y w' hS hF K hK => ?_, ?_⟩
                    · skip -- 5: move
                      simp only [fillL, cond_true, cond_false, List.getD_cons_zero, List.getD_cons_succ, StP.is, Act.put, List.setIfInBounds_toArray, List.set_cons_zero, List.set_cons_succ, Nat.reduceAdd] at hK ⊢
                      refine rg_yes (by kernel_rfl) ?_
                      clear hF
                      go_simp
                      exact hK _ _ (Ext.refl _) rfl
                    refine ⟨fun y w' hS hF K hK => ?_, ?_⟩
                    · skip -- 6: indexAddr
                      have e21 : y 21 = _ := hF.1
                      have e22 : y 22 = _ := hF.2.1
                      simp only [fillL, cond_true, cond_false, List.getD_cons_zero, List.getD_cons_succ, StP.is, Act.put, List.setIfInBounds_toArray, List.set_cons_zero, List.set_cons_succ, Nat.reduceAdd, e21, e22] at hK ⊢
                      refine rg_yes (by kernel_rfl) ?_
                      clear e21 e22
                      clear hF
                      go_simp
                      exact hK _ _ (Ext.refl _) rfl
                    refine ⟨fun y w' hS hF K hK => ?_, ?_⟩
                    · skip -- 7: load
                      have e23 : y 23 = _ := hF.1
                      simp only [fillL, cond_true, cond_false, List.getD_cons_zero, List.getD_cons_succ, StP.is, Act.put, List.setIfInBounds_toArray, List.set_cons_zero, List.set_cons_succ, Nat.reduceAdd, e23] at hK ⊢
                      refine rg_yes (by kernel_rfl) ?_
                      have qx0_ := (Below.cell hS bl).trans q0
                      have qx1_ := (Below.cell hS bl).trans q1
                      have qx2_ := (Below.cell hS bl).trans q2
                      have qx3_ := (Below.cell hS bl).trans q3
                      have qx4_ := (Below.cell hS bl).trans q4
                      have qx5_ := (Below.cell hS bl').trans r0
                      have qx6_ := (Below.cell hS bl').trans r1
                      have qx7_ := (Below.cell hS bl').trans r2
                      have qx8_ := (Below.cell hS bl').trans r3
                      have qx9_ := (Below.cell hS bl').trans r4
                      clear e23
                      clear hF
                      go_simp
                      exact hK _ _ (Ext.refl _) rfl
                    refine ⟨fun y w' hS hF K hK => ?_, ?_⟩
                    · skip -- 8: binOp
                      have e20 : y 20 = _ := hF.1
                      have e24 : y 24 = _ := hF.2.1
                      simp only [fillL, cond_true, cond_false, List.getD_cons_zero, List.getD_cons_succ, StP.is, Act.put, List.setIfInBounds_toArray, List.set_cons_zero, List.set_cons_succ, Nat.reduceAdd, e20, e24] at hK ⊢
                      refine rg_yes (by kernel_rfl) ?_
                      clear e20 e24
                      clear hF
                      go_simp
                      exact hK _ _ (Ext.refl _) rfl
                    trivial
                  case hend =>
                    intro y w2 hX hF
                    have e25 : y 25 = _ := hF.2.2.2.2.2.2.2.2.1
                    clear hF
                    simp only [fillL, cond_true, cond_false, Nat.reduceAdd, e25]
                    clear e25
                    have hB2 : Below w.heap.size w w2 := hB.trans (Below.mono hX hB.size)
                    clear hX
                    go_wp2_with fail
                    go_roundw
                    case rel => exact ⟨k + 1, by omega, by go_num, HS2, hB2⟩
                    case measure => simp [intOf]; omega
                · have HN2 := Lib.hid (HNO.out (by simp [d4]))
                  skip
                  clear HST HNO
                  go_wp2_with fail
                  apply wp_region_rg (by kernel_rfl) (false :: false :: false :: false :: false :: false :: false :: false :: false :: false :: false :: false :: false :: false :: false :: false :: false :: true :: true :: true :: true :: true :: true :: true :: true :: true :: []) [some 17, some 18, some 19, some 20, some 21, some 22, some 23, some 24, some 25] [[], [], [0, 1], [2], [], [], [4, 5], [6], [3, 7]] [StP.is _, StP.is _, StP.is _, StP.is _, StP.is _, StP.is _, StP.is _, StP.is _, StP.is _] (by kernel_rfl)
                  case hobs =>
                    refine ⟨fun y w' hS hF K hK => ?_, ?_⟩
                    · skip -- 0: move
                      simp only [fillL, cond_true, cond_false, List.getD_cons_zero, List.getD_cons_succ, StP.is, Act.put, List.setIfInBounds_toArray, List.set_cons_zero, List.set_cons_succ, Nat.reduceAdd] at hK ⊢
                      refine rg_yes (by kernel_rfl) ?_
                      clear hF
                      go_simp
                      exact hK _ _ (Ext.refl _) rfl
                    refine ⟨fun y w' hS hF K hK => ?_, ?_⟩
                    · skip -- 1: move
                      simp only [fillL, cond_true, cond_false, List.getD_cons_zero, List.getD_cons_succ, StP.is, Act.put, List.setIfInBounds_toArray, List.set_cons_zero, List.set_cons_succ, Nat.reduceAdd] at hK ⊢
                      refine rg_yes (by kernel_rfl) ?_
                      clear hF
                      go_simp
                      exact hK _ _ (Ext.refl _) rfl
                    refine ⟨fun y w' hS hF K hK => ?_, ?_⟩
                    · skip -- 2: indexAddr
                      have e17 : y 17 = _ := hF.1
                      have e18 : y 18 = _ := hF.2.1
                      simp only [fillL, cond_true, cond_false, List.getD_cons_zero, List.getD_cons_succ, StP.is, Act.put, List.setIfInBounds_toArray, List.set_cons_zero, List.set_cons_succ, Nat.reduceAdd, e17, e18] at hK ⊢
                      refine rg_yes (by kernel_rfl) ?_
                      clear e17 e18
                      clear hF
                      go_simp
                      exact hK _ _ (Ext.refl _) rfl
                    refine ⟨fun y w' hS hF K hK => ?_, ?_⟩
                    · skip -- 3: load
                      have e19 : y 19 = _ := hF.1
                      simp only [fillL, cond_true, cond_false, List.getD_cons_zero, List.getD_cons_succ, StP.is, Act.put, List.setIfInBounds_toArray, List.set_cons_zero, List.set_cons_succ, Nat.reduceAdd, e19] at hK ⊢
                      refine rg_yes (by kernel_rfl) ?_
                      have qx0_ := (Below.cell hS bl).trans q0
                      have qx1_ := (Below.cell hS bl).trans q1
                      have qx2_ := (Below.cell hS bl).trans q2
                      have qx3_ := (Below.cell hS bl).trans q3
                      have qx4_ := (Below.cell hS bl).trans q4
                      have qx5_ := (Below.cell hS bl').trans r0
                      have qx6_ := (Below.cell hS bl').trans r1
                      have qx7_ := (Below.cell hS bl').trans r2
                      have qx8_ := (Below.cell hS bl').trans r3
                      have qx9_ := (Below.cell hS bl').trans r4
                      clear e19
                      clear hF
                      go_simp
                      exact hK _ _ (Ext.refl _) rfl
                    refine ⟨fun y w' hS hF K hK => ?_, ?_⟩
                    · skip -- 4: move
                      simp only [fillL, cond_true, cond_false, List.getD_cons_zero, List.getD_cons_succ, StP.is, Act.put, List.setIfInBounds_toArray, List.set_cons_zero, List.set_cons_succ, Nat.reduceAdd] at hK ⊢
                      refine rg_yes (by kernel_rfl) ?_
                      clear hF
                      go_simp
                      exact hK _ _ (Ext.refl _) rfl
                    refine ⟨fun y w' hS hF K hK => ?_, ?_⟩
                    · skip -- 5: move
                      simp only [fillL, cond_true, cond_false, List.getD_cons_zero, List.getD_cons_succ, StP.is, Act.put, List.setIfInBounds_toArray, List.set_cons_zero, List.set_cons_succ, Nat.reduceAdd] at hK ⊢
                      refine rg_yes (by kernel_rfl) ?_
                      clear hF
                      go_simp
                      exact hK _ _ (Ext.refl _) rfl
                    refine ⟨fun y w' hS hF K hK => ?_, ?_⟩
                    · skip -- 6: indexAddr
                      have e21 : y 21 = _ := hF.1
                      have e22 : y 22 = _ := hF.2.1
                      simp only [fillL, cond_true, cond_false, List.getD_cons_zero, List.getD_cons_succ, StP.is, Act.put, List.setIfInBounds_toArray, List.set_cons_zero, List.set_cons_succ, Nat.reduceAdd, e21, e22] at hK ⊢
                      refine rg_yes (by kernel_rfl) ?_
                      clear e21 e22
                      clear hF
                      go_simp
                      exact hK _ _ (Ext.refl _) rfl
                    refine ⟨fun y w' hS hF K hK => ?_, ?_⟩
                    · skip -- 7: load
                      have e23 : y 23 = _ := hF.1
                      simp only [fillL, cond_true, cond_false, List.getD_cons_zero, List.getD_cons_succ, StP.is, Act.put, List.setIfInBounds_toArray, List.set_cons_zero, List.set_cons_succ, Nat.reduceAdd, e23] at hK ⊢
                      refine rg_yes (by kernel_rfl) ?_
                      have qx0_ := (Below.cell hS bl).trans q0
                      have qx1_ := (Below.cell hS bl).trans q1
                      have qx2_ := (Below.cell hS bl).trans q2
                      have qx3_ := (Below.cell hS bl).trans q3
                      have qx4_ := (Below.cell hS bl).trans q4
                      have qx5_ := (Below.cell hS bl').trans r0
                      have qx6_ := (Below.cell hS bl').trans r1
                      have qx7_ := (Below.cell hS bl').trans r2
                      have qx8_ := (Below.cell hS bl').trans r3
                      have qx9_ := (Below.cell hS bl').trans r4
                      clear e23
                      clear hF
                      go_simp
                      exact hK _ _ (Ext.refl _) rfl
                    refine ⟨fun y w' hS hF K hK => ?_, ?_⟩
                    · skip -- 8: binOp
                      have e20 : y 20 = _ := hF.1
                      have e24 : y 24 = _ := hF.2.1
                      simp only [fillL, cond_true, cond_false, List.getD_cons_zero, List.getD_cons_succ, StP.is, Act.put, List.setIfInBounds_toArray, List.set_cons_zero, List.set_cons_succ, Nat.reduceAdd, e20, e24] at hK ⊢
                      refine rg_yes (by kernel_rfl) ?_
                      clear e20 e24
                      clear hF
                      go_simp
                      exact hK _ _ (Ext.refl _) rfl
                    trivial
                  case hend =>
                    intro y w2 hX hF
                    have e25 : y 25 = _ := hF.2.2.2.2.2.2.2.2.1
                    clear hF
                    simp only [fillL, cond_true, cond_false, Nat.reduceAdd, e25]
                    clear e25
                    have hB2 : Below w.heap.size w w2 := hB.trans (Below.mono hX hB.size)
                    clear hX
                    go_wp2_with fail
                    go_ret
                    exact ⟨ret_bool HN2.out.symm, hB2⟩
              · have HN2 := Lib.hid (HNO.out (by simp [d3]))
                skip
                clear HST HNO
                go_wp2_with fail
                apply wp_region_rg (by kernel_rfl) (false :: false :: false :: false :: false :: false :: false :: false :: false :: false :: false :: false :: false :: false :: false :: false :: false :: true :: true :: true :: true :: true :: true :: true :: true :: true :: []) [some 17, some 18, some 19, some 20, some 21, some 22, some 23, some 24, some 25] [[], [], [0, 1], [2], [], [], [4, 5], [6], [3, 7]] [StP.is _, StP.is _, StP.is _, StP.is _, StP.is _, StP.is _, StP.is _, StP.is _, StP.is _] (by kernel_rfl)
                case hobs =>
                  refine ⟨fun y w' hS hF K hK => ?_, ?_⟩
                  · skip -- 0: move
                    simp only [fillL, cond_true, cond_false, List.getD_cons_zero, List.getD_cons_succ, StP.is, Act.put, List.setIfInBounds_toArray, List.set_cons_zero, List.set_cons_succ, Nat.reduceAdd] at hK ⊢
                    refine rg_yes (by kernel_rfl) ?_
                    clear hF
                    go_simp
                    exact hK _ _ (Ext.refl _) rfl
                  refine ⟨fun y w' hS hF K hK => ?_, ?_⟩
                  · skip -- 1: move
                    simp only [fillL, cond_true, cond_false, List.getD_cons_zero, List.getD_cons_succ, StP.is, Act.put, List.setIfInBounds_toArray, List.set_cons_zero, List.set_cons_succ, Nat.reduceAdd] at hK ⊢
                    refine rg_yes (by kernel_rfl) ?_
                    clear hF
                    go_simp
                    exact hK _ _ (Ext.refl _) rfl
                  refine ⟨fun y w' hS hF K hK => ?_, ?_⟩
                  · skip -- 2: indexAddr
                    have e17 : y 17 = _ := hF.1
                    have e18 : y 18 = _ := hF.2.1
                    simp only [fillL, cond_true, cond_false, List.getD_cons_zero, List.getD_cons_succ, StP.is, Act.put, List.setIfInBounds_toArray, List.set_cons_zero, List.set_cons_succ, Nat.reduceAdd, e17, e18] at hK ⊢
                    refine rg_yes (by kernel_rfl) ?_
                    clear e17 e18
                    clear hF
                    go_simp
                    exact hK _ _ (Ext.refl _) rfl
                  refine ⟨fun y w' hS hF K hK => ?_, ?_⟩
                  · skip -- 3: load
                    have e19 : y 19 = _ := hF.1
                    simp only [fillL, cond_true, cond_false, List.getD_cons_zero, List.getD_cons_succ, StP.is, Act.put, List.setIfInBounds_toArray, List.set_cons_zero, List.set_cons_succ, Nat.reduceAdd, e19] at hK ⊢
                    refine rg_yes (by kernel_rfl) ?_
                    have qx0_ := (Below.cell hS bl).trans q0
                    have qx1_ := (Below.cell hS bl).trans q1
                    have qx2_ := (Below.cell hS bl).trans q2
                    have qx3_ := (Below.cell hS bl).trans q3
                    have qx4_ := (Below.cell hS bl).trans q4
                    have qx5_ := (Below.cell hS bl').trans r0
                    have qx6_ := (Below.cell hS bl').trans r1
                    have qx7_ := (Below.cell hS bl').trans r2
                    have qx8_ := (Below.cell hS bl').trans r3
                    have qx9_ := (Below.cell hS bl').trans r4
                    clear e19
                    clear hF
                    go_simp
                    exact hK _ _ (Ext.refl _) rfl
                  refine ⟨fun y w' hS hF K hK => ?_, ?_⟩
                  · skip -- 4: move
                    simp only [fillL, cond_true, cond_false, List.getD_cons_zero, List.getD_cons_succ, StP.is, Act.put, List.setIfInBounds_toArray, List.set_cons_zero, List.set_cons_succ, Nat.reduceAdd] at hK ⊢
                    refine rg_yes (by kernel_rfl) ?_
                    clear hF
                    go_simp
                    exact hK _ _ (Ext.refl _) rfl
                  refine ⟨fun y w' hS hF K hK => ?_, ?_⟩
                  · skip -- 5: move
                    simp only [fillL, cond_true, cond_false, List.getD_cons_zero, List.getD_cons_succ, StP.is, Act.put, List.setIfInBounds_toArray, List.set_cons_zero, List.set_cons_succ, Nat.reduceAdd] at hK ⊢
                    refine rg_yes (by kernel_rfl) ?_
                    clear hF
                    go_simp
                    exact hK _ _ (Ext.refl _) rfl
                  refine ⟨fun y w' hS hF K hK => ?_, ?_⟩
                  · skip -- 6: indexAddr
                    have e21 : y 21 = _ := hF.1
                    have e22 : y 22 = _ := hF.2.1
                    simp only [fillL, cond_true, cond_false, List.getD_cons_zero, List.getD_cons_succ, StP.is, Act.put, List.setIfInBounds_toArray, List.set_cons_zero, List.set_cons_succ, Nat.reduceAdd, e21, e22] at hK ⊢
                    refine rg_yes (by kernel_rfl) ?_
                    clear e21 e22
                    clear hF
                    go_simp
                    exact hK _ _ (Ext.refl _) rfl
                  refine ⟨fun y w' hS hF K hK => ?_, ?_⟩
                  · skip -- 7: load
                    have e23 : y 23 = _ := hF.1
                    simp only [fillL, cond_true, cond_false, List.getD_cons_zero, List.getD_cons_succ, StP.is, Act.put, List.setIfInBounds_toArray, List.set_cons_zero, List.set_cons_succ, Nat.reduceAdd, e23] at hK ⊢
                    refine rg_yes (by kernel_rfl) ?_
                    have qx0_ := (Below.cell hS bl).trans q0
                    have qx1_ := (Below.cell hS bl).trans q1
                    have qx2_ := (Below.cell hS bl).trans q2
                    have qx3_ := (Below.cell hS bl).trans q3
                    have qx4_ := (Below.cell hS bl).trans q4
                    have qx5_ := (Below.cell hS bl').trans r0
                    have qx6_ := (Below.cell hS bl').trans r1
                    have qx7_ := (Below.cell hS bl').trans r2
                    have qx8_ := (Below.cell hS bl').trans r3
                    have qx9_ := (Below.cell hS bl').trans r4
                    clear e23
                    clear hF
                    go_simp
                    exact hK _ _ (Ext.refl _) rfl
                  refine ⟨fun y w' hS hF K hK => ?_, ?_⟩
                  · skip -- 8: binOp
                    have e20 : y 20 = _ := hF.1
                    have e24 : y 24 = _ := hF.2.1
                    simp only [fillL, cond_true, cond_false, List.getD_cons_zero, List.getD_cons_succ, StP.is, Act.put, List.setIfInBounds_toArray, List.set_cons_zero, List.set_cons_succ, Nat.reduceAdd, e20, e24] at hK ⊢
                    refine rg_yes (by kernel_rfl) ?_
                    clear e20 e24
                    clear hF
                    go_simp
                    exact hK _ _ (Ext.refl _) rfl
                  trivial
                case hend =>
                  intro y w2 hX hF
                  have e25 : y 25 = _ := hF.2.2.2.2.2.2.2.2.1
                  clear hF
                  simp only [fillL, cond_true, cond_false, Nat.reduceAdd, e25]
                  clear e25
                  have hB2 : Below w.heap.size w w2 := hB.trans (Below.mono hX hB.size)
                  clear hX
                  go_wp2_with fail
                  go_ret
                  exact ⟨ret_bool HN2.out.symm, hB2⟩
            · have HN2 := Lib.hid (HNO.out (by simp [d2]))
              skip
              clear HST HNO
              go_wp2_with fail
              apply wp_region_rg (by kernel_rfl) (false :: false :: false :: false :: false :: false :: false :: false :: false :: false :: false :: false :: false :: false :: false :: false :: false :: true :: true :: true :: true :: true :: true :: true :: true :: true :: []) [some 17, some 18, some 19, some 20, some 21, some 22, some 23, some 24, some 25] [[], [], [0, 1], [2], [], [], [4, 5], [6], [3, 7]] [StP.is _, StP.is _, StP.is _, StP.is _, StP.is _, StP.is _, StP.is _, StP.is _, StP.is _] (by kernel_rfl)
              case hobs =>
                refine ⟨fun y w' hS hF K hK => ?_, ?_⟩
                · skip -- 0: move
                  simp only [fillL, cond_true, cond_false, List.getD_cons_zero, List.getD_cons_succ, StP.is, Act.put, List.setIfInBounds_toArray, List.set_cons_zero, List.set_cons_succ, Nat.reduceAdd] at hK ⊢
                  refine rg_yes (by kernel_rfl) ?_
                  clear hF
                  go_simp
                  exact hK _ _ (Ext.refl _) rfl
                refine ⟨fun y w' hS hF K hK => ?_, ?_⟩
                · skip -- 1: move
                  simp only [fillL, cond_true, cond_false, List.getD_cons_zero, List.getD_cons_succ, StP.is, Act.put, List.setIfInBounds_toArray, List.set_cons_zero, List.set_cons_succ, Nat.reduceAdd] at hK ⊢
                  refine rg_yes (by kernel_rfl) ?_
                  clear hF
                  go_simp
                  exact hK _ _ (Ext.refl _) rfl
                refine ⟨fun y w' hS hF K hK => ?_, ?_⟩
                · skip -- 2: indexAddr
                  have e17 : y 17 = _ := hF.1
                  have e18 : y 18 = _ := hF.2.1
                  simp only [fillL, cond_true, cond_false, List.getD_cons_zero, List.getD_cons_succ, StP.is, Act.put, List.setIfInBounds_toArray, List.set_cons_zero, List.set_cons_succ, Nat.reduceAdd, e17, e18] at hK ⊢
                  refine rg_yes (by kernel_rfl) ?_
                  clear e17 e18
                  clear hF
                  go_simp
                  exact hK _ _ (Ext.refl _) rfl
                refine ⟨fun y w' hS hF K hK => ?_, ?_⟩
                · skip -- 3: load
                  have e19 : y 19 = _ := hF.1
                  simp only [fillL, cond_true, cond_false, List.getD_cons_zero, List.getD_cons_succ, StP.is, Act.put, List.setIfInBounds_toArray, List.set_cons_zero, List.set_cons_succ, Nat.reduceAdd, e19] at hK ⊢
                  refine rg_yes (by kernel_rfl) ?_
                  have qx0_ := (Below.cell hS bl).trans q0
                  have qx1_ := (Below.cell hS bl).trans q1
                  have qx2_ := (Below.cell hS bl).trans q2
                  have qx3_ := (Below.cell hS bl).trans q3
                  have qx4_ := (Below.cell hS bl).trans q4
                  have qx5_ := (Below.cell hS bl').trans r0
                  have qx6_ := (Below.cell hS bl').trans r1
                  have qx7_ := (Below.cell hS bl').trans r2
                  have qx8_ := (Below.cell hS bl').trans r3
                  have qx9_ := (Below.cell hS bl').trans r4
                  clear e19
                  clear hF
                  go_simp
                  exact hK _ _ (Ext.refl _) rfl
                refine ⟨fun y w' hS hF K hK => ?_, ?_⟩
                · skip -- 4: move
                  simp only [fillL, cond_true, cond_false, List.getD_cons_zero, List.getD_cons_succ, StP.is, Act.put, List.setIfInBounds_toArray, List.set_cons_zero, List.set_cons_succ, Nat.reduceAdd] at hK ⊢
                  refine rg_yes (by kernel_rfl) ?_
                  clear hF
                  go_simp
                  exact hK _ _ (Ext.refl _) rfl
                refine ⟨fun y w' hS hF K hK => ?_, ?_⟩
                · skip -- 5: move
                  simp only [fillL, cond_true, cond_false, List.getD_cons_zero, List.getD_cons_succ, StP.is, Act.put, List.setIfInBounds_toArray, List.set_cons_zero, List.set_cons_succ, Nat.reduceAdd] at hK ⊢
                  refine rg_yes (by kernel_rfl) ?_
                  clear hF
                  go_simp
                  exact hK _ _ (Ext.refl _) rfl
                refine ⟨fun y w' hS hF K hK => ?_, ?_⟩
                · skip -- 6: indexAddr
                  have e21 : y 21 = _ := hF.1
                  have e22 : y 22 = _ := hF.2.1
                  simp only [fillL, cond_true, cond_false, List.getD_cons_zero, List.getD_cons_succ, StP.is, Act.put, List.setIfInBounds_toArray, List.set_cons_zero, List.set_cons_succ, Nat.reduceAdd, e21, e22] at hK ⊢
                  refine rg_yes (by kernel_rfl) ?_
                  clear e21 e22
                  clear hF
                  go_simp
                  exact hK _ _ (Ext.refl _) rfl
                refine ⟨fun y w' hS hF K hK => ?_, ?_⟩
                · skip -- 7: load
                  have e23 : y 23 = _ := hF.1
                  simp only [fillL, cond_true, cond_false, List.getD_cons_zero, List.getD_cons_succ, StP.is, Act.put, List.setIfInBounds_toArray, List.set_cons_zero, List.set_cons_succ, Nat.reduceAdd, e23] at hK ⊢
                  refine rg_yes (by kernel_rfl) ?_
                  have qx0_ := (Below.cell hS bl).trans q0
                  have qx1_ := (Below.cell hS bl).trans q1
                  have qx2_ := (Below.cell hS bl).trans q2
                  have qx3_ := (Below.cell hS bl).trans q3
                  have qx4_ := (Below.cell hS bl).trans q4
                  have qx5_ := (Below.cell hS bl').trans r0
                  have qx6_ := (Below.cell hS bl').trans r1
                  have qx7_ := (Below.cell hS bl').trans r2
                  have qx8_ := (Below.cell hS bl').trans r3
                  have qx9_ := (Below.cell hS bl').trans r4
                  clear e23
                  clear hF
                  go_simp
                  exact hK _ _ (Ext.refl _) rfl
                refine ⟨fun y w' hS hF K hK => ?_, ?_⟩
                · skip -- 8: binOp
                  have e20 : y 20 = _ := hF.1
                  have e24 : y 24 = _ := hF.2.1
                  simp only [fillL, cond_true, cond_false, List.getD_cons_zero, List.getD_cons_succ, StP.is, Act.put, List.setIfInBounds_toArray, List.set_cons_zero, List.set_cons_succ, Nat.reduceAdd, e20, e24] at hK ⊢
                  refine rg_yes (by kernel_rfl) ?_
                  clear e20 e24
                  clear hF
                  go_simp
                  exact hK _ _ (Ext.refl _) rfl
                trivial
              case hend =>
                intro y w2 hX hF
                have e25 : y 25 = _ := hF.2.2.2.2.2.2.2.2.1
                clear hF
                simp only [fillL, cond_true, cond_false, Nat.reduceAdd, e25]
                clear e25
                have hB2 : Below w.heap.size w w2 := hB.trans (Below.mono hX hB.size)
                clear hX
                go_wp2_with fail
                go_ret
                exact ⟨ret_bool HN2.out.symm, hB2⟩
          · have HN2 := Lib.hid (HNO.out (by simp [d1]))
            skip
            clear HST HNO
            go_wp2_with fail
            apply wp_region_rg (by kernel_rfl) (false :: false :: false :: false :: false :: false :: false :: false :: false :: false :: false :: false :: false :: false :: false :: false :: false :: true :: true :: true :: true :: true :: true :: true :: true :: true :: []) [some 17, some 18, some 19, some 20, some 21, some 22, some 23, some 24, some 25] [[], [], [0, 1], [2], [], [], [4, 5], [6], [3, 7]] [StP.is _, StP.is _, StP.is _, StP.is _, StP.is _, StP.is _, StP.is _, StP.is _, StP.is _] (by kernel_rfl)
            case hobs =>
              refine ⟨fun y w' hS hF K hK => ?_, ?_⟩
              · skip -- 0: move
                simp only [fillL, cond_true, cond_false, List.getD_cons_zero, List.getD_cons_succ, StP.is, Act.put, List.setIfInBounds_toArray, List.set_cons_zero, List.set_cons_succ, Nat.reduceAdd] at hK ⊢
                refine rg_yes (by kernel_rfl) ?_
                clear hF
                go_simp
                exact hK _ _ (Ext.refl _) rfl
              refine ⟨fun y w' hS hF K hK => ?_, ?_⟩
              · skip -- 1: move
                simp only [fillL, cond_true, cond_false, List.getD_cons_zero, List.getD_cons_succ, StP.is, Act.put, List.setIfInBounds_toArray, List.set_cons_zero, List.set_cons_succ, Nat.reduceAdd] at hK ⊢
                refine rg_yes (by kernel_rfl) ?_
                clear hF
                go_simp
                exact hK _ _ (Ext.refl _) rfl
              refine ⟨fun y w' hS hF K hK => ?_, ?_⟩
              · skip -- 2: indexAddr
                have e17 : y 17 = _ := hF.1
                have e18 : y 18 = _ := hF.2.1
                simp only [fillL, cond_true, cond_false, List.getD_cons_zero, List.getD_cons_succ, StP.is, Act.put, List.setIfInBounds_toArray, List.set_cons_zero, List.set_cons_succ, Nat.reduceAdd, e17, e18] at hK ⊢
                refine rg_yes (by kernel_rfl) ?_
                clear e17 e18
                clear hF
                go_simp
                exact hK _ _ (Ext.refl _) rfl
              refine ⟨fun y w' hS hF K hK => ?_, ?_⟩
              · skip -- 3: load
                have e19 : y 19 = _ := hF.1
                simp only [fillL, cond_true, cond_false, List.getD_cons_zero, List.getD_cons_succ, StP.is, Act.put, List.setIfInBounds_toArray, List.set_cons_zero, List.set_cons_succ, Nat.reduceAdd, e19] at hK ⊢
                refine rg_yes (by kernel_rfl) ?_
                have qx0_ := (Below.cell hS bl).trans q0
                have qx1_ := (Below.cell hS bl).trans q1
                have qx2_ := (Below.cell hS bl).trans q2
                have qx3_ := (Below.cell hS bl).trans q3
                have qx4_ := (Below.cell hS bl).trans q4
                have qx5_ := (Below.cell hS bl').trans r0
                have qx6_ := (Below.cell hS bl').trans r1
                have qx7_ := (Below.cell hS bl').trans r2
                have qx8_ := (Below.cell hS bl').trans r3
                have qx9_ := (Below.cell hS bl').trans r4
                clear e19
                clear hF
                go_simp
                exact hK _ _ (Ext.refl _) rfl
              refine ⟨fun y w' hS hF K hK => ?_, ?_⟩
              · skip -- 4: move
                simp only [fillL, cond_true, cond_false, List.getD_cons_zero, List.getD_cons_succ, StP.is, Act.put, List.setIfInBounds_toArray, List.set_cons_zero, List.set_cons_succ, Nat.reduceAdd] at hK ⊢
                refine rg_yes (by kernel_rfl) ?_
                clear hF
                go_simp
                exact hK _ _ (Ext.refl _) rfl
              refine ⟨fun y w' hS hF K hK => ?_, ?_⟩
              · skip -- 5: move
                simp only [fillL, cond_true, cond_false, List.getD_cons_zero, List.getD_cons_succ, StP.is, Act.put, List.setIfInBounds_toArray, List.set_cons_zero, List.set_cons_succ, Nat.reduceAdd] at hK ⊢
                refine rg_yes (by kernel_rfl) ?_
                clear hF
                go_simp
                exact hK _ _ (Ext.refl _) rfl
              refine ⟨fun y w' hS hF K hK => ?_, ?_⟩
              · skip -- 6: indexAddr
                have e21 : y 21 = _ := hF.1
                have e22 : y 22 = _ := hF.2.1
                simp only [fillL, cond_true, cond_false, List.getD_cons_zero, List.getD_cons_succ, StP.is, Act.put, List.setIfInBounds_toArray, List.set_cons_zero, List.set_cons_succ, Nat.reduceAdd, e21, e22] at hK ⊢
                refine rg_yes (by kernel_rfl) ?_
                clear e21 e22
                clear hF
                go_simp
                exact hK _ _ (Ext.refl _) rfl
              refine ⟨fun y w' hS hF K hK => ?_, ?_⟩
              · skip -- 7: load
                have e23 : y 23 = _ := hF.1
                simp only [fillL, cond_true, cond_false, List.getD_cons_zero, List.getD_cons_succ, StP.is, Act.put, List.setIfInBounds_toArray, List.set_cons_zero, List.set_cons_succ, Nat.reduceAdd, e23] at hK ⊢
                refine rg_yes (by kernel_rfl) ?_
                have qx0_ := (Below.cell hS bl).trans q0
                have qx1_ := (Below.cell hS bl).trans q1
                have qx2_ := (Below.cell hS bl).trans q2
                have qx3_ := (Below.cell hS bl).trans q3
                have qx4_ := (Below.cell hS bl).trans q4
                have qx5_ := (Below.cell hS bl').trans r0
                have qx6_ := (Below.cell hS bl').trans r1
                have qx7_ := (Below.cell hS bl').trans r2
                have qx8_ := (Below.cell hS bl').trans r3
                have qx9_ := (Below.cell hS bl').trans r4
                clear e23
                clear hF
                go_simp
                exact hK _ _ (Ext.refl _) rfl
              refine ⟨fun y w' hS hF K hK => ?_, ?_⟩
              · skip -- 8: binOp
                have e20 : y 20 = _ := hF.1
                have e24 : y 24 = _ := hF.2.1
                simp only [fillL, cond_true, cond_false, List.getD_cons_zero, List.getD_cons_succ, StP.is, Act.put, List.setIfInBounds_toArray, List.set_cons_zero, List.set_cons_succ, Nat.reduceAdd, e20, e24] at hK ⊢
                refine rg_yes (by kernel_rfl) ?_
                clear e20 e24
                clear hF
                go_simp
                exact hK _ _ (Ext.refl _) rfl
              trivial
            case hend =>
              intro y w2 hX hF
              have e25 : y 25 = _ := hF.2.2.2.2.2.2.2.2.1
              clear hF
              simp only [fillL, cond_true, cond_false, Nat.reduceAdd, e25]
              clear e25
              have hB2 : Below w.heap.size w w2 := hB.trans (Below.mono hX hB.size)
              clear hX
              go_wp2_with fail
              go_ret
              exact ⟨ret_bool HN2.out.symm, hB2⟩
        · have HN2 := Lib.hid (HNO.out (by simp [d0]))
          skip
          clear HST HNO
          go_wp2_with fail
          apply wp_region_rg (by kernel_rfl) (false :: false :: false :: false :: false :: false :: false :: false :: false :: false :: false :: false :: false :: false :: false :: false :: false :: true :: true :: true :: true :: true :: true :: true :: true :: true :: []) [some 17, some 18, some 19, some 20, some 21, some 22, some 23, some 24, some 25] [[], [], [0, 1], [2], [], [], [4, 5], [6], [3, 7]] [StP.is _, StP.is _, StP.is _, StP.is _, StP.is _, StP.is _, StP.is _, StP.is _, StP.is _] (by kernel_rfl)
          case hobs =>
            refine ⟨fun y w' hS hF K hK => ?_, ?_⟩
            · skip -- 0: move
              simp only [fillL, cond_true, cond_false, List.getD_cons_zero, List.getD_cons_succ, StP.is, Act.put, List.setIfInBounds_toArray, List.set_cons_zero, List.set_cons_succ, Nat.reduceAdd] at hK ⊢
              refine rg_yes (by kernel_rfl) ?_
              clear hF
              go_simp
              exact hK _ _ (Ext.refl _) rfl
            refine ⟨fun y w' hS hF K hK => ?_, ?_⟩
            · skip -- 1: move
              simp only [fillL, cond_true, cond_false, List.getD_cons_zero, List.getD_cons_succ, StP.is, Act.put, List.setIfInBounds_toArray, List.set_cons_zero, List.set_cons_succ, Nat.reduceAdd] at hK ⊢
              refine rg_yes (by kernel_rfl) ?_
              clear hF
              go_simp
              exact hK _ _ (Ext.refl _) rfl
            refine ⟨fun y w' hS hF K hK => ?_, ?_⟩
            · skip -- 2: indexAddr
              have e17 : y 17 = _ := hF.1
              have e18 : y 18 = _ := hF.2.1
              simp only [fillL, cond_true, cond_false, List.getD_cons_zero, List.getD_cons_succ, StP.is, Act.put, List.setIfInBounds_toArray, List.set_cons_zero, List.set_cons_succ, Nat.reduceAdd, e17, e18] at hK ⊢
              refine rg_yes (by kernel_rfl) ?_
              clear e17 e18
              clear hF
              go_simp
              exact hK _ _ (Ext.refl _) rfl
            refine ⟨fun y w' hS hF K hK => ?_, ?_⟩
            · skip -- 3: load
              have e19 : y 19 = _ := hF.1
              simp only [fillL, cond_true, cond_false, List.getD_cons_zero, List.getD_cons_succ, StP.is, Act.put, List.setIfInBounds_toArray, List.set_cons_zero, List.set_cons_succ, Nat.reduceAdd, e19] at hK ⊢
              refine rg_yes (by kernel_rfl) ?_
              have qx0_ := (Below.cell hS bl).trans q0
              have qx1_ := (Below.cell hS bl).trans q1
              have qx2_ := (Below.cell hS bl).trans q2
              have qx3_ := (Below.cell hS bl).trans q3
              have qx4_ := (Below.cell hS bl).trans q4
              have qx5_ := (Below.cell hS bl').trans r0
              have qx6_ := (Below.cell hS bl').trans r1
              have qx7_ := (Below.cell hS bl').trans r2
              have qx8_ := (Below.cell hS bl').trans r3
              have qx9_ := (Below.cell hS bl').trans r4
              clear e19
              clear hF
              go_simp
              exact hK _ _ (Ext.refl _) rfl
            refine ⟨fun y w' hS hF K hK => ?_, ?_⟩
            · skip -- 4: move
              simp only [fillL, cond_true, cond_false, List.getD_cons_zero, List.getD_cons_succ, StP.is, Act.put, List.setIfInBounds_toArray, List.set_cons_zero, List.set_cons_succ, Nat.reduceAdd] at hK ⊢
              refine rg_yes (by kernel_rfl) ?_
              clear hF
              go_simp
              exact hK _ _ (Ext.refl _) rfl
            refine ⟨fun y w' hS hF K hK => ?_, ?_⟩
            · skip -- 5: move
              simp only [fillL, cond_true, cond_false, List.getD_cons_zero, List.getD_cons_succ, StP.is, Act.put, List.setIfInBounds_toArray, List.set_cons_zero, List.set_cons_succ, Nat.reduceAdd] at hK ⊢
              refine rg_yes (by kernel_rfl) ?_
              clear hF
              go_simp
              exact hK _ _ (Ext.refl _) rfl
            refine ⟨fun y w' hS hF K hK => ?_, ?_⟩
            · skip -- 6: indexAddr
              have e21 : y 21 = _ := hF.1
              have e22 : y 22 = _ := hF.2.1
              simp only [fillL, cond_true, cond_false, List.getD_cons_zero, List.getD_cons_succ, StP.is, Act.put, List.setIfInBounds_toArray, List.set_cons_zero, List.set_cons_succ, Nat.reduceAdd, e21, e22] at hK ⊢
              refine rg_yes (by kernel_rfl) ?_
              clear e21 e22
              clear hF
              go_simp
              exact hK _ _ (Ext.refl _) rfl
            refine ⟨fun y w' hS hF K hK => ?_, ?_⟩
            · skip -- 7: load
              have e23 : y 23 = _ := hF.1
              simp only [fillL, cond_true, cond_false, List.getD_cons_zero, List.getD_cons_succ, StP.is, Act.put, List.setIfInBounds_toArray, List.set_cons_zero, List.set_cons_succ, Nat.reduceAdd, e23] at hK ⊢
              refine rg_yes (by kernel_rfl) ?_
              have qx0_ := (Below.cell hS bl).trans q0
              have qx1_ := (Below.cell hS bl).trans q1
              have qx2_ := (Below.cell hS bl).trans q2
              have qx3_ := (Below.cell hS bl).trans q3
              have qx4_ := (Below.cell hS bl).trans q4
              have qx5_ := (Below.cell hS bl').trans r0
              have qx6_ := (Below.cell hS bl').trans r1
              have qx7_ := (Below.cell hS bl').trans r2
              have qx8_ := (Below.cell hS bl').trans r3
              have qx9_ := (Below.cell hS bl').trans r4
              clear e23
              clear hF
              go_simp
              exact hK _ _ (Ext.refl _) rfl
            refine ⟨fun y w' hS hF K hK => ?_, ?_⟩
            · skip -- 8: binOp
              have e20 : y 20 = _ := hF.1
              have e24 : y 24 = _ := hF.2.1
              simp only [fillL, cond_true, cond_false, List.getD_cons_zero, List.getD_cons_succ, StP.is, Act.put, List.setIfInBounds_toArray, List.set_cons_zero, List.set_cons_succ, Nat.reduceAdd, e20, e24] at hK ⊢
              refine rg_yes (by kernel_rfl) ?_
              clear e20 e24
              clear hF
              go_simp
              exact hK _ _ (Ext.refl _) rfl
            trivial
          case hend =>
            intro y w2 hX hF
            have e25 : y 25 = _ := hF.2.2.2.2.2.2.2.2.1
            clear hF
            simp only [fillL, cond_true, cond_false, Nat.reduceAdd, e25]
            clear e25
            have hB2 : Below w.heap.size w w2 := hB.trans (Below.mono hX hB.size)
            clear hX
            go_wp2_with fail
            go_ret
            exact ⟨ret_bool HN2.out.symm, hB2⟩
      · obtain rfl : k = n := by omega
        have hf := Lib.hid (same_all HP.out HL.out HL'.out)
        go_wp2_with fail
        go_ret
        exact ⟨ret_bool hf.out.symm, hB⟩
  · have e2 : ((n : Int) != m) = true := by simp; omega
    have hf := Lib.hid (same_len (xs := xs) (ys := ys) (by rw [HL.out, HL'.out]; exact hnm))
    clear hnm
    go_enter Try.func74, Try.ntmps74
    go_wp2_with fail
    go_ret
    exact ⟨ret_bool hf.out.symm, Below.refl _ _⟩

set_option maxRecDepth 100000 in
set_option maxHeartbeats 4000000 in
theorem sameHead_any (cs cs' : List Value) (x y : HeadD) (w : World) (lo hi lo' hi' : Nat) (h : HeadR w lo hi cs x) (h' : HeadR w lo' hi' cs' y) :
    Calls Try.prog 78 #[.agg cs.toArray, .agg cs'.toArray] w fun e w' => e = .returned (.bool (eqD x y)) ∧ Below w.heap.size w w' := by
  have HN := Lib.hid (fun hne : x ≠ y => eqD_no hne)
  obtain ⟨xname_, xprev_, ⟨⟨xtree_root_at_, xtree_root_birth_, xtree_root_size_, xtree_root_sum_, xtree_root_level_⟩, xtree_depth_, xtree_many_⟩, xdead_, xquota_⟩ := x
  obtain ⟨zname_, zprev_, ⟨⟨ztree_root_at_, ztree_root_birth_, ztree_root_size_, ztree_root_sum_, ztree_root_level_⟩, ztree_depth_, ztree_many_⟩, zdead_, zquota_⟩ := y
  obtain ⟨Aa0, na0, ca0, rfl, ha0, ha1⟩ := h
  obtain ⟨Ab0, nb0, cb0, rfl, hb0, hb1⟩ := h'
  have Hha1 := Lib.hid ha1
  have Hhb1 := Lib.hid hb1
  clear ha0 ha1 hb0 hb1
  by_cases d0 : xname_ = zname_
  rotate_left
  · have HF := Lib.hid (HN.out (by simp [d0]))
    have e0_ := str_ne d0
    clear HN
    show Calls Try.prog 78 #[.agg #[.string xname_, .int .i64 xprev_, .int .i64 xtree_root_at_, .int .i64 xtree_root_birth_, .int .i64 xtree_root_size_, .int .i64 xtree_root_sum_, .int .i64 xtree_root_level_, .int .i64 xtree_depth_, .int .i64 xtree_many_, .slice Aa0 na0 ca0, .int .i64 xquota_], .agg #[.string zname_, .int .i64 zprev_, .int .i64 ztree_root_at_, .int .i64 ztree_root_birth_, .int .i64 ztree_root_size_, .int .i64 ztree_root_sum_, .int .i64 ztree_root_level_, .int .i64 ztree_depth_, .int .i64 ztree_many_, .slice Ab0 nb0 cb0, .int .i64 zquota_]] w _
    go_enter Try.func78, Try.ntmps78
    go_wp2_with fail
    go_ret
    exact ⟨ret_bool HF.out.symm, bel2⟩
  subst d0
  by_cases d1 : xprev_ = zprev_
  rotate_left
  · have HF := Lib.hid (HN.out (by simp [d1]))
    have e1_ : (xprev_ == zprev_) = false := by simpa using d1
    clear HN
    show Calls Try.prog 78 #[.agg #[.string xname_, .int .i64 xprev_, .int .i64 xtree_root_at_, .int .i64 xtree_root_birth_, .int .i64 xtree_root_size_, .int .i64 xtree_root_sum_, .int .i64 xtree_root_level_, .int .i64 xtree_depth_, .int .i64 xtree_many_, .slice Aa0 na0 ca0, .int .i64 xquota_], .agg #[.string xname_, .int .i64 zprev_, .int .i64 ztree_root_at_, .int .i64 ztree_root_birth_, .int .i64 ztree_root_size_, .int .i64 ztree_root_sum_, .int .i64 ztree_root_level_, .int .i64 ztree_depth_, .int .i64 ztree_many_, .slice Ab0 nb0 cb0, .int .i64 zquota_]] w _
    go_enter Try.func78, Try.ntmps78
    go_wp2_with fail
    go_ret
    exact ⟨ret_bool HF.out.symm, bel2⟩
  subst d1
  by_cases d2 : xtree_root_at_ = ztree_root_at_
  rotate_left
  · have HF := Lib.hid (HN.out (by simp [d2]))
    have e2_ : (xtree_root_at_ == ztree_root_at_) = false := by simpa using d2
    clear HN
    show Calls Try.prog 78 #[.agg #[.string xname_, .int .i64 xprev_, .int .i64 xtree_root_at_, .int .i64 xtree_root_birth_, .int .i64 xtree_root_size_, .int .i64 xtree_root_sum_, .int .i64 xtree_root_level_, .int .i64 xtree_depth_, .int .i64 xtree_many_, .slice Aa0 na0 ca0, .int .i64 xquota_], .agg #[.string xname_, .int .i64 xprev_, .int .i64 ztree_root_at_, .int .i64 ztree_root_birth_, .int .i64 ztree_root_size_, .int .i64 ztree_root_sum_, .int .i64 ztree_root_level_, .int .i64 ztree_depth_, .int .i64 ztree_many_, .slice Ab0 nb0 cb0, .int .i64 zquota_]] w _
    go_enter Try.func78, Try.ntmps78
    go_wp2_with fail
    go_ret
    exact ⟨ret_bool HF.out.symm, bel2⟩
  subst d2
  by_cases d3 : xtree_root_birth_ = ztree_root_birth_
  rotate_left
  · have HF := Lib.hid (HN.out (by simp [d3]))
    have e3_ : (xtree_root_birth_ == ztree_root_birth_) = false := by simpa using d3
    clear HN
    show Calls Try.prog 78 #[.agg #[.string xname_, .int .i64 xprev_, .int .i64 xtree_root_at_, .int .i64 xtree_root_birth_, .int .i64 xtree_root_size_, .int .i64 xtree_root_sum_, .int .i64 xtree_root_level_, .int .i64 xtree_depth_, .int .i64 xtree_many_, .slice Aa0 na0 ca0, .int .i64 xquota_], .agg #[.string xname_, .int .i64 xprev_, .int .i64 xtree_root_at_, .int .i64 ztree_root_birth_, .int .i64 ztree_root_size_, .int .i64 ztree_root_sum_, .int .i64 ztree_root_level_, .int .i64 ztree_depth_, .int .i64 ztree_many_, .slice Ab0 nb0 cb0, .int .i64 zquota_]] w _
    go_enter Try.func78, Try.ntmps78
    go_wp2_with fail
    go_ret
    exact ⟨ret_bool HF.out.symm, bel2⟩
  subst d3
  by_cases d4 : xtree_root_size_ = ztree_root_size_
  rotate_left
  · have HF := Lib.hid (HN.out (by simp [d4]))
    have e4_ : (xtree_root_size_ == ztree_root_size_) = false := by simpa using d4
    clear HN
    show Calls Try.prog 78 #[.agg #[.string xname_, .int .i64 xprev_, .int .i64 xtree_root_at_, .int .i64 xtree_root_birth_, .int .i64 xtree_root_size_, .int .i64 xtree_root_sum_, .int .i64 xtree_root_level_, .int .i64 xtree_depth_, .int .i64 xtree_many_, .slice Aa0 na0 ca0, .int .i64 xquota_], .agg #[.string xname_, .int .i64 xprev_, .int .i64 xtree_root_at_, .int .i64 xtree_root_birth_, .int .i64 ztree_root_size_, .int .i64 ztree_root_sum_, .int .i64 ztree_root_level_, .int .i64 ztree_depth_, .int .i64 ztree_many_, .slice Ab0 nb0 cb0, .int .i64 zquota_]] w _
    go_enter Try.func78, Try.ntmps78
    go_wp2_with fail
    go_ret
    exact ⟨ret_bool HF.out.symm, bel2⟩
  subst d4
  by_cases d5 : xtree_root_sum_ = ztree_root_sum_
  rotate_left
  · have HF := Lib.hid (HN.out (by simp [d5]))
    have e5_ : (xtree_root_sum_ == ztree_root_sum_) = false := by simpa using d5
    clear HN
    show Calls Try.prog 78 #[.agg #[.string xname_, .int .i64 xprev_, .int .i64 xtree_root_at_, .int .i64 xtree_root_birth_, .int .i64 xtree_root_size_, .int .i64 xtree_root_sum_, .int .i64 xtree_root_level_, .int .i64 xtree_depth_, .int .i64 xtree_many_, .slice Aa0 na0 ca0, .int .i64 xquota_], .agg #[.string xname_, .int .i64 xprev_, .int .i64 xtree_root_at_, .int .i64 xtree_root_birth_, .int .i64 xtree_root_size_, .int .i64 ztree_root_sum_, .int .i64 ztree_root_level_, .int .i64 ztree_depth_, .int .i64 ztree_many_, .slice Ab0 nb0 cb0, .int .i64 zquota_]] w _
    go_enter Try.func78, Try.ntmps78
    go_wp2_with fail
    go_ret
    exact ⟨ret_bool HF.out.symm, bel2⟩
  subst d5
  by_cases d6 : xtree_root_level_ = ztree_root_level_
  rotate_left
  · have HF := Lib.hid (HN.out (by simp [d6]))
    have e6_ : (xtree_root_level_ == ztree_root_level_) = false := by simpa using d6
    clear HN
    show Calls Try.prog 78 #[.agg #[.string xname_, .int .i64 xprev_, .int .i64 xtree_root_at_, .int .i64 xtree_root_birth_, .int .i64 xtree_root_size_, .int .i64 xtree_root_sum_, .int .i64 xtree_root_level_, .int .i64 xtree_depth_, .int .i64 xtree_many_, .slice Aa0 na0 ca0, .int .i64 xquota_], .agg #[.string xname_, .int .i64 xprev_, .int .i64 xtree_root_at_, .int .i64 xtree_root_birth_, .int .i64 xtree_root_size_, .int .i64 xtree_root_sum_, .int .i64 ztree_root_level_, .int .i64 ztree_depth_, .int .i64 ztree_many_, .slice Ab0 nb0 cb0, .int .i64 zquota_]] w _
    go_enter Try.func78, Try.ntmps78
    go_wp2_with fail
    go_ret
    exact ⟨ret_bool HF.out.symm, bel2⟩
  subst d6
  by_cases d7 : xtree_depth_ = ztree_depth_
  rotate_left
  · have HF := Lib.hid (HN.out (by simp [d7]))
    have e7_ : (xtree_depth_ == ztree_depth_) = false := by simpa using d7
    clear HN
    show Calls Try.prog 78 #[.agg #[.string xname_, .int .i64 xprev_, .int .i64 xtree_root_at_, .int .i64 xtree_root_birth_, .int .i64 xtree_root_size_, .int .i64 xtree_root_sum_, .int .i64 xtree_root_level_, .int .i64 xtree_depth_, .int .i64 xtree_many_, .slice Aa0 na0 ca0, .int .i64 xquota_], .agg #[.string xname_, .int .i64 xprev_, .int .i64 xtree_root_at_, .int .i64 xtree_root_birth_, .int .i64 xtree_root_size_, .int .i64 xtree_root_sum_, .int .i64 xtree_root_level_, .int .i64 ztree_depth_, .int .i64 ztree_many_, .slice Ab0 nb0 cb0, .int .i64 zquota_]] w _
    go_enter Try.func78, Try.ntmps78
    go_wp2_with fail
    go_ret
    exact ⟨ret_bool HF.out.symm, bel2⟩
  subst d7
  by_cases d8 : xtree_many_ = ztree_many_
  rotate_left
  · have HF := Lib.hid (HN.out (by simp [d8]))
    have e8_ : (xtree_many_ == ztree_many_) = false := by simpa using d8
    clear HN
    show Calls Try.prog 78 #[.agg #[.string xname_, .int .i64 xprev_, .int .i64 xtree_root_at_, .int .i64 xtree_root_birth_, .int .i64 xtree_root_size_, .int .i64 xtree_root_sum_, .int .i64 xtree_root_level_, .int .i64 xtree_depth_, .int .i64 xtree_many_, .slice Aa0 na0 ca0, .int .i64 xquota_], .agg #[.string xname_, .int .i64 xprev_, .int .i64 xtree_root_at_, .int .i64 xtree_root_birth_, .int .i64 xtree_root_size_, .int .i64 xtree_root_sum_, .int .i64 xtree_root_level_, .int .i64 xtree_depth_, .int .i64 ztree_many_, .slice Ab0 nb0 cb0, .int .i64 zquota_]] w _
    go_enter Try.func78, Try.ntmps78
    go_wp2_with fail
    go_ret
    exact ⟨ret_bool HF.out.symm, bel2⟩
  subst d8
  by_cases d9 : xquota_ = zquota_
  rotate_left
  · have HF := Lib.hid (HN.out (by simp [d9]))
    have e9_ : (xquota_ == zquota_) = false := by simpa using d9
    clear HN
    show Calls Try.prog 78 #[.agg #[.string xname_, .int .i64 xprev_, .int .i64 xtree_root_at_, .int .i64 xtree_root_birth_, .int .i64 xtree_root_size_, .int .i64 xtree_root_sum_, .int .i64 xtree_root_level_, .int .i64 xtree_depth_, .int .i64 xtree_many_, .slice Aa0 na0 ca0, .int .i64 xquota_], .agg #[.string xname_, .int .i64 xprev_, .int .i64 xtree_root_at_, .int .i64 xtree_root_birth_, .int .i64 xtree_root_size_, .int .i64 xtree_root_sum_, .int .i64 xtree_root_level_, .int .i64 xtree_depth_, .int .i64 xtree_many_, .slice Ab0 nb0 cb0, .int .i64 zquota_]] w _
    go_enter Try.func78, Try.ntmps78
    go_wp2_with fail
    go_ret
    exact ⟨ret_bool HF.out.symm, bel2⟩
  subst d9
  show Calls Try.prog 78 #[.agg #[.string xname_, .int .i64 xprev_, .int .i64 xtree_root_at_, .int .i64 xtree_root_birth_, .int .i64 xtree_root_size_, .int .i64 xtree_root_sum_, .int .i64 xtree_root_level_, .int .i64 xtree_depth_, .int .i64 xtree_many_, .slice Aa0 na0 ca0, .int .i64 xquota_], .agg #[.string xname_, .int .i64 xprev_, .int .i64 xtree_root_at_, .int .i64 xtree_root_birth_, .int .i64 xtree_root_size_, .int .i64 xtree_root_sum_, .int .i64 xtree_root_level_, .int .i64 xtree_depth_, .int .i64 xtree_many_, .slice Ab0 nb0 cb0, .int .i64 xquota_]] w _
  go_enter Try.func78, Try.ntmps78
  go_wp2_with fail
  refine (slicesEqualPtr_any _ _ _ _ _ _ xdead_ zdead_ _ _ _ _ _ (SliceR.below Hha1.out bel2 (PtrR.below bel2 Hha1.out.lo_le)) (SliceR.below Hhb1.out bel2 (PtrR.below bel2 Hhb1.out.lo_le))).mono ?_
  rintro e w1 ⟨rfl, hb1⟩
  have X1 : Below w.heap.size w w1 := bel2.trans (hb1.mono (by simp <;> omega))
  clear hb1
  cases hs : same xdead_ zdead_
  · have HF := Lib.hid (HN.out (by intro hh; simp at hh; subst hh; rw [same_iff.2 rfl] at hs; cases hs)); clear hs
    go_wp2_with fail
    go_ret
    exact ⟨ret_bool HF.out.symm, X1⟩
  · have hs2 := same_iff.1 hs; clear hs; subst hs2
    go_wp2_with fail
    go_ret
    exact ⟨ret_bool (eqD_yes rfl).symm, X1⟩

set_option maxRecDepth 100000 in
set_option maxHeartbeats 4000000 in
theorem sameSnap_any (cs cs' : List Value) (x y : SnapD) (w : World) (lo hi lo' hi' : Nat) (h : SnapR w lo hi cs x) (h' : SnapR w lo' hi' cs' y) :
    Calls Try.prog 80 #[.agg cs.toArray, .agg cs'.toArray] w fun e w' => e = .returned (.bool (eqD x y)) ∧ Below w.heap.size w w' := by
  have HN := Lib.hid (fun hne : x ≠ y => eqD_no hne)
  obtain ⟨xid_, xname_, xtxg_, xprev_, ⟨⟨xtree_root_at_, xtree_root_birth_, xtree_root_size_, xtree_root_sum_, xtree_root_level_⟩, xtree_depth_, xtree_many_⟩, xdead_⟩ := x
  obtain ⟨zid_, zname_, ztxg_, zprev_, ⟨⟨ztree_root_at_, ztree_root_birth_, ztree_root_size_, ztree_root_sum_, ztree_root_level_⟩, ztree_depth_, ztree_many_⟩, zdead_⟩ := y
  obtain ⟨Aa0, na0, ca0, rfl, ha0, ha1⟩ := h
  obtain ⟨Ab0, nb0, cb0, rfl, hb0, hb1⟩ := h'
  have Hha1 := Lib.hid ha1
  have Hhb1 := Lib.hid hb1
  clear ha0 ha1 hb0 hb1
  by_cases d0 : xid_ = zid_
  rotate_left
  · have HF := Lib.hid (HN.out (by simp [d0]))
    have e0_ : (xid_ == zid_) = false := by simpa using d0
    clear HN
    show Calls Try.prog 80 #[.agg #[.int .i64 xid_, .string xname_, .int .i64 xtxg_, .int .i64 xprev_, .int .i64 xtree_root_at_, .int .i64 xtree_root_birth_, .int .i64 xtree_root_size_, .int .i64 xtree_root_sum_, .int .i64 xtree_root_level_, .int .i64 xtree_depth_, .int .i64 xtree_many_, .slice Aa0 na0 ca0], .agg #[.int .i64 zid_, .string zname_, .int .i64 ztxg_, .int .i64 zprev_, .int .i64 ztree_root_at_, .int .i64 ztree_root_birth_, .int .i64 ztree_root_size_, .int .i64 ztree_root_sum_, .int .i64 ztree_root_level_, .int .i64 ztree_depth_, .int .i64 ztree_many_, .slice Ab0 nb0 cb0]] w _
    go_enter Try.func80, Try.ntmps80
    go_wp2_with fail
    go_ret
    exact ⟨ret_bool HF.out.symm, bel2⟩
  subst d0
  by_cases d1 : xname_ = zname_
  rotate_left
  · have HF := Lib.hid (HN.out (by simp [d1]))
    have e1_ := str_ne d1
    clear HN
    show Calls Try.prog 80 #[.agg #[.int .i64 xid_, .string xname_, .int .i64 xtxg_, .int .i64 xprev_, .int .i64 xtree_root_at_, .int .i64 xtree_root_birth_, .int .i64 xtree_root_size_, .int .i64 xtree_root_sum_, .int .i64 xtree_root_level_, .int .i64 xtree_depth_, .int .i64 xtree_many_, .slice Aa0 na0 ca0], .agg #[.int .i64 xid_, .string zname_, .int .i64 ztxg_, .int .i64 zprev_, .int .i64 ztree_root_at_, .int .i64 ztree_root_birth_, .int .i64 ztree_root_size_, .int .i64 ztree_root_sum_, .int .i64 ztree_root_level_, .int .i64 ztree_depth_, .int .i64 ztree_many_, .slice Ab0 nb0 cb0]] w _
    go_enter Try.func80, Try.ntmps80
    go_wp2_with fail
    go_ret
    exact ⟨ret_bool HF.out.symm, bel2⟩
  subst d1
  by_cases d2 : xtxg_ = ztxg_
  rotate_left
  · have HF := Lib.hid (HN.out (by simp [d2]))
    have e2_ : (xtxg_ == ztxg_) = false := by simpa using d2
    clear HN
    show Calls Try.prog 80 #[.agg #[.int .i64 xid_, .string xname_, .int .i64 xtxg_, .int .i64 xprev_, .int .i64 xtree_root_at_, .int .i64 xtree_root_birth_, .int .i64 xtree_root_size_, .int .i64 xtree_root_sum_, .int .i64 xtree_root_level_, .int .i64 xtree_depth_, .int .i64 xtree_many_, .slice Aa0 na0 ca0], .agg #[.int .i64 xid_, .string xname_, .int .i64 ztxg_, .int .i64 zprev_, .int .i64 ztree_root_at_, .int .i64 ztree_root_birth_, .int .i64 ztree_root_size_, .int .i64 ztree_root_sum_, .int .i64 ztree_root_level_, .int .i64 ztree_depth_, .int .i64 ztree_many_, .slice Ab0 nb0 cb0]] w _
    go_enter Try.func80, Try.ntmps80
    go_wp2_with fail
    go_ret
    exact ⟨ret_bool HF.out.symm, bel2⟩
  subst d2
  by_cases d3 : xprev_ = zprev_
  rotate_left
  · have HF := Lib.hid (HN.out (by simp [d3]))
    have e3_ : (xprev_ == zprev_) = false := by simpa using d3
    clear HN
    show Calls Try.prog 80 #[.agg #[.int .i64 xid_, .string xname_, .int .i64 xtxg_, .int .i64 xprev_, .int .i64 xtree_root_at_, .int .i64 xtree_root_birth_, .int .i64 xtree_root_size_, .int .i64 xtree_root_sum_, .int .i64 xtree_root_level_, .int .i64 xtree_depth_, .int .i64 xtree_many_, .slice Aa0 na0 ca0], .agg #[.int .i64 xid_, .string xname_, .int .i64 xtxg_, .int .i64 zprev_, .int .i64 ztree_root_at_, .int .i64 ztree_root_birth_, .int .i64 ztree_root_size_, .int .i64 ztree_root_sum_, .int .i64 ztree_root_level_, .int .i64 ztree_depth_, .int .i64 ztree_many_, .slice Ab0 nb0 cb0]] w _
    go_enter Try.func80, Try.ntmps80
    go_wp2_with fail
    go_ret
    exact ⟨ret_bool HF.out.symm, bel2⟩
  subst d3
  by_cases d4 : xtree_root_at_ = ztree_root_at_
  rotate_left
  · have HF := Lib.hid (HN.out (by simp [d4]))
    have e4_ : (xtree_root_at_ == ztree_root_at_) = false := by simpa using d4
    clear HN
    show Calls Try.prog 80 #[.agg #[.int .i64 xid_, .string xname_, .int .i64 xtxg_, .int .i64 xprev_, .int .i64 xtree_root_at_, .int .i64 xtree_root_birth_, .int .i64 xtree_root_size_, .int .i64 xtree_root_sum_, .int .i64 xtree_root_level_, .int .i64 xtree_depth_, .int .i64 xtree_many_, .slice Aa0 na0 ca0], .agg #[.int .i64 xid_, .string xname_, .int .i64 xtxg_, .int .i64 xprev_, .int .i64 ztree_root_at_, .int .i64 ztree_root_birth_, .int .i64 ztree_root_size_, .int .i64 ztree_root_sum_, .int .i64 ztree_root_level_, .int .i64 ztree_depth_, .int .i64 ztree_many_, .slice Ab0 nb0 cb0]] w _
    go_enter Try.func80, Try.ntmps80
    go_wp2_with fail
    go_ret
    exact ⟨ret_bool HF.out.symm, bel2⟩
  subst d4
  by_cases d5 : xtree_root_birth_ = ztree_root_birth_
  rotate_left
  · have HF := Lib.hid (HN.out (by simp [d5]))
    have e5_ : (xtree_root_birth_ == ztree_root_birth_) = false := by simpa using d5
    clear HN
    show Calls Try.prog 80 #[.agg #[.int .i64 xid_, .string xname_, .int .i64 xtxg_, .int .i64 xprev_, .int .i64 xtree_root_at_, .int .i64 xtree_root_birth_, .int .i64 xtree_root_size_, .int .i64 xtree_root_sum_, .int .i64 xtree_root_level_, .int .i64 xtree_depth_, .int .i64 xtree_many_, .slice Aa0 na0 ca0], .agg #[.int .i64 xid_, .string xname_, .int .i64 xtxg_, .int .i64 xprev_, .int .i64 xtree_root_at_, .int .i64 ztree_root_birth_, .int .i64 ztree_root_size_, .int .i64 ztree_root_sum_, .int .i64 ztree_root_level_, .int .i64 ztree_depth_, .int .i64 ztree_many_, .slice Ab0 nb0 cb0]] w _
    go_enter Try.func80, Try.ntmps80
    go_wp2_with fail
    go_ret
    exact ⟨ret_bool HF.out.symm, bel2⟩
  subst d5
  by_cases d6 : xtree_root_size_ = ztree_root_size_
  rotate_left
  · have HF := Lib.hid (HN.out (by simp [d6]))
    have e6_ : (xtree_root_size_ == ztree_root_size_) = false := by simpa using d6
    clear HN
    show Calls Try.prog 80 #[.agg #[.int .i64 xid_, .string xname_, .int .i64 xtxg_, .int .i64 xprev_, .int .i64 xtree_root_at_, .int .i64 xtree_root_birth_, .int .i64 xtree_root_size_, .int .i64 xtree_root_sum_, .int .i64 xtree_root_level_, .int .i64 xtree_depth_, .int .i64 xtree_many_, .slice Aa0 na0 ca0], .agg #[.int .i64 xid_, .string xname_, .int .i64 xtxg_, .int .i64 xprev_, .int .i64 xtree_root_at_, .int .i64 xtree_root_birth_, .int .i64 ztree_root_size_, .int .i64 ztree_root_sum_, .int .i64 ztree_root_level_, .int .i64 ztree_depth_, .int .i64 ztree_many_, .slice Ab0 nb0 cb0]] w _
    go_enter Try.func80, Try.ntmps80
    go_wp2_with fail
    go_ret
    exact ⟨ret_bool HF.out.symm, bel2⟩
  subst d6
  by_cases d7 : xtree_root_sum_ = ztree_root_sum_
  rotate_left
  · have HF := Lib.hid (HN.out (by simp [d7]))
    have e7_ : (xtree_root_sum_ == ztree_root_sum_) = false := by simpa using d7
    clear HN
    show Calls Try.prog 80 #[.agg #[.int .i64 xid_, .string xname_, .int .i64 xtxg_, .int .i64 xprev_, .int .i64 xtree_root_at_, .int .i64 xtree_root_birth_, .int .i64 xtree_root_size_, .int .i64 xtree_root_sum_, .int .i64 xtree_root_level_, .int .i64 xtree_depth_, .int .i64 xtree_many_, .slice Aa0 na0 ca0], .agg #[.int .i64 xid_, .string xname_, .int .i64 xtxg_, .int .i64 xprev_, .int .i64 xtree_root_at_, .int .i64 xtree_root_birth_, .int .i64 xtree_root_size_, .int .i64 ztree_root_sum_, .int .i64 ztree_root_level_, .int .i64 ztree_depth_, .int .i64 ztree_many_, .slice Ab0 nb0 cb0]] w _
    go_enter Try.func80, Try.ntmps80
    go_wp2_with fail
    go_ret
    exact ⟨ret_bool HF.out.symm, bel2⟩
  subst d7
  by_cases d8 : xtree_root_level_ = ztree_root_level_
  rotate_left
  · have HF := Lib.hid (HN.out (by simp [d8]))
    have e8_ : (xtree_root_level_ == ztree_root_level_) = false := by simpa using d8
    clear HN
    show Calls Try.prog 80 #[.agg #[.int .i64 xid_, .string xname_, .int .i64 xtxg_, .int .i64 xprev_, .int .i64 xtree_root_at_, .int .i64 xtree_root_birth_, .int .i64 xtree_root_size_, .int .i64 xtree_root_sum_, .int .i64 xtree_root_level_, .int .i64 xtree_depth_, .int .i64 xtree_many_, .slice Aa0 na0 ca0], .agg #[.int .i64 xid_, .string xname_, .int .i64 xtxg_, .int .i64 xprev_, .int .i64 xtree_root_at_, .int .i64 xtree_root_birth_, .int .i64 xtree_root_size_, .int .i64 xtree_root_sum_, .int .i64 ztree_root_level_, .int .i64 ztree_depth_, .int .i64 ztree_many_, .slice Ab0 nb0 cb0]] w _
    go_enter Try.func80, Try.ntmps80
    go_wp2_with fail
    go_ret
    exact ⟨ret_bool HF.out.symm, bel2⟩
  subst d8
  by_cases d9 : xtree_depth_ = ztree_depth_
  rotate_left
  · have HF := Lib.hid (HN.out (by simp [d9]))
    have e9_ : (xtree_depth_ == ztree_depth_) = false := by simpa using d9
    clear HN
    show Calls Try.prog 80 #[.agg #[.int .i64 xid_, .string xname_, .int .i64 xtxg_, .int .i64 xprev_, .int .i64 xtree_root_at_, .int .i64 xtree_root_birth_, .int .i64 xtree_root_size_, .int .i64 xtree_root_sum_, .int .i64 xtree_root_level_, .int .i64 xtree_depth_, .int .i64 xtree_many_, .slice Aa0 na0 ca0], .agg #[.int .i64 xid_, .string xname_, .int .i64 xtxg_, .int .i64 xprev_, .int .i64 xtree_root_at_, .int .i64 xtree_root_birth_, .int .i64 xtree_root_size_, .int .i64 xtree_root_sum_, .int .i64 xtree_root_level_, .int .i64 ztree_depth_, .int .i64 ztree_many_, .slice Ab0 nb0 cb0]] w _
    go_enter Try.func80, Try.ntmps80
    go_wp2_with fail
    go_ret
    exact ⟨ret_bool HF.out.symm, bel2⟩
  subst d9
  by_cases d10 : xtree_many_ = ztree_many_
  rotate_left
  · have HF := Lib.hid (HN.out (by simp [d10]))
    have e10_ : (xtree_many_ == ztree_many_) = false := by simpa using d10
    clear HN
    show Calls Try.prog 80 #[.agg #[.int .i64 xid_, .string xname_, .int .i64 xtxg_, .int .i64 xprev_, .int .i64 xtree_root_at_, .int .i64 xtree_root_birth_, .int .i64 xtree_root_size_, .int .i64 xtree_root_sum_, .int .i64 xtree_root_level_, .int .i64 xtree_depth_, .int .i64 xtree_many_, .slice Aa0 na0 ca0], .agg #[.int .i64 xid_, .string xname_, .int .i64 xtxg_, .int .i64 xprev_, .int .i64 xtree_root_at_, .int .i64 xtree_root_birth_, .int .i64 xtree_root_size_, .int .i64 xtree_root_sum_, .int .i64 xtree_root_level_, .int .i64 xtree_depth_, .int .i64 ztree_many_, .slice Ab0 nb0 cb0]] w _
    go_enter Try.func80, Try.ntmps80
    go_wp2_with fail
    go_ret
    exact ⟨ret_bool HF.out.symm, bel2⟩
  subst d10
  show Calls Try.prog 80 #[.agg #[.int .i64 xid_, .string xname_, .int .i64 xtxg_, .int .i64 xprev_, .int .i64 xtree_root_at_, .int .i64 xtree_root_birth_, .int .i64 xtree_root_size_, .int .i64 xtree_root_sum_, .int .i64 xtree_root_level_, .int .i64 xtree_depth_, .int .i64 xtree_many_, .slice Aa0 na0 ca0], .agg #[.int .i64 xid_, .string xname_, .int .i64 xtxg_, .int .i64 xprev_, .int .i64 xtree_root_at_, .int .i64 xtree_root_birth_, .int .i64 xtree_root_size_, .int .i64 xtree_root_sum_, .int .i64 xtree_root_level_, .int .i64 xtree_depth_, .int .i64 xtree_many_, .slice Ab0 nb0 cb0]] w _
  go_enter Try.func80, Try.ntmps80
  go_wp2_with fail
  refine (slicesEqualPtr_any _ _ _ _ _ _ xdead_ zdead_ _ _ _ _ _ (SliceR.below Hha1.out bel2 (PtrR.below bel2 Hha1.out.lo_le)) (SliceR.below Hhb1.out bel2 (PtrR.below bel2 Hhb1.out.lo_le))).mono ?_
  rintro e w1 ⟨rfl, hb1⟩
  have X1 : Below w.heap.size w w1 := bel2.trans (hb1.mono (by simp <;> omega))
  clear hb1
  cases hs : same xdead_ zdead_
  · have HF := Lib.hid (HN.out (by intro hh; simp at hh; subst hh; rw [same_iff.2 rfl] at hs; cases hs)); clear hs
    go_wp2_with fail
    go_ret
    exact ⟨ret_bool HF.out.symm, X1⟩
  · have hs2 := same_iff.1 hs; clear hs; subst hs2
    go_wp2_with fail
    go_ret
    exact ⟨ret_bool (eqD_yes rfl).symm, X1⟩

end Go.Proofs.Ytodibogijnjlaaa
