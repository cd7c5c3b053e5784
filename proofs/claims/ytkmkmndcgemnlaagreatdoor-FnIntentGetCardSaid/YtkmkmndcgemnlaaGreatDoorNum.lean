/- NumPut both: the decimal numeral of a number in range, else the empty text; l6Dec. Condition: the table of powers of ten lies as its initialiser lays it. -/
import Derived.Test.YtkmkmndcgemnlaaGreatDoorRecs
import Derived.Test.YtkmkmndcgemnlaaGreatDoorTab
import Derived.Test.YtkmkmndcgemnlaaGreatDoorRg
import Derived.Test.YtkmkmndcgemnlaaGreatDoorShelf
import Derived.Laws.BytesArg
namespace Go.Proofs.YtkmkmndcgemnlaaGreatDoor
set_option linter.unusedVariables false
set_option linter.unusedSimpArgs false
set_option linter.unnecessarySimpa false
open Go Go.Lib Go.RowKit

theorem one_digit {d : Nat} (h : d < 10) : strOfNums [((48 + d : Nat) : Int)] = strB [UInt8.ofNat (48 + d)] := by
  have e : strOfNums [((48 + d : Nat) : Int)] = ⟨#[UInt8.ofNat (((48 + d : Nat) : Int)).toNat]⟩ := rfl
  rw [e, Int.toNat_natCast]
  rfl
theorem grow_bel (w : World) (k : Nat) (os : Array Obj) : Below w.heap.size w (Sort.grow (w.drewN k) os) :=
  ⟨rfl, rfl, rfl, by simp [Sort.grow], fun i hi => by show (w.heap ++ os)[i]? = w.heap[i]?; exact Array.getElem?_append_left hi⟩
theorem conv1 {w : World} {g : Nat} {v : Int} (hg : w.heap[g]? = some (.cells #[.int .u8 v] 5 (0, 0))) :
    (convert 22 9 (.slice (some ⟨g, 0, none⟩) 1 1)).run Tryz.prog w = .ok (.string (strOfNums [v])) w :=
  run_convert_bytes_arg (P := Tryz.prog) _ 22 5 Tryz.underlying22 Tryz.underlying5 g 0 1 1 [v] rfl (fun i hi => by have : i = 0 := (by omega); subst this; exact cell_of_row _ _ 0 _ _ (0, 0) hg) 9 Tryz.underlying9
def litB (d : Int) : StP := ⟨fun v w => ∃ g : Nat, v = .slice (some ⟨g, 0, none⟩) 1 1 ∧ w.heap[g]? = some (.cells #[.int .u8 d] 5 (0, 0)), fun v w w' hs ⟨g, e, hg⟩ => ⟨g, e, (Below.block hs g (Array.getElem?_eq_some_iff.1 hg).1).trans hg⟩⟩
theorem sz1 (v : Int) : (strOfNums [v]).size = 1 := rfl
theorem quo10 {n : Nat} : (n : Int) / 10 = ((n / 10 : Nat) : Int) := by omega
theorem rem10 {n : Nat} : 48 + (n : Int) % 10 = ((48 + n % 10 : Nat) : Int) := by omega
set_option maxRecDepth 100000 in
set_option maxHeartbeats 4000000 in
theorem l6Dec_any (n : Nat) : n ≤ 1000000000000000000 → ∀ w : World, Calls Tryz.prog 38 #[.int .i64 (n : Int)] w fun e w' => e = .returned (.string (strB (decDigits n))) ∧ Below w.heap.size w w' := by
  induction n using Nat.strongRecOn with
  | _ n ih =>
    intro hn w
    have hn0 : ¬ (n : Int) < -9223372036854775807 := by omega
    have hn1 : ¬ (n : Int) < 0 := by omega
    by_cases h : n < 10
    · have h10 : (n : Int) < 10 := by omega
      have HE := Lib.hid (dec_small h)
      have hc : ∀ (W : World) (v : Int), (convert 22 9 (.slice (some ⟨W.heap.size, 0, none⟩) 1 1)).run Tryz.prog (W.alloc (.cells #[.int .u8 v] 5)) = .ok (.string (strOfNums [v])) (W.alloc (.cells #[.int .u8 v] 5)) := fun W v => conv1 (heap_alloc_new _ _)
      go_enter Tryz.func38, Tryz.ntmps38
      go_wp2_with fail
      go_ret
      exact ⟨ret_str (by rw [HE.out, ← one_digit h]; simp), bel1⟩
    · have h10 : ¬ (n : Int) < 10 := by omega
      have HE := Lib.hid (dec_big h)
      obtain ⟨m, hm⟩ : ∃ m : Nat, m = n / 10 := ⟨_, rfl⟩
      obtain ⟨r, hr⟩ : ∃ r : Nat, r = n % 10 := ⟨_, rfl⟩
      obtain ⟨x, hx⟩ : ∃ x : Int, x = ((48 + r : Nat) : Int) := ⟨_, rfl⟩
      have hsz : (strB (decDigits m)).size ≤ 20 := by rw [strB_size]; exact dec_len20 (by omega)
      have hz1 := sz1 x
      have HR : Hid (strOfNums [x] = strB [UInt8.ofNat (48 + n % 10)]) := Lib.hid (by rw [hx, hr]; exact one_digit (Nat.mod_lt _ (by decide)))
      have t1 : (n : Int).tdiv 10 = (m : Int) := by rw [Int.tdiv_eq_ediv_of_nonneg (by omega)]; omega
      have t1b : (n : Int) / 10 = (m : Int) := by omega
      have t2 : (n : Int).tmod 10 = (r : Int) := by rw [Int.tmod_eq_emod_of_nonneg (by omega)]; omega
      have t2b : (n : Int) % 10 = (r : Int) := by omega
      have t3 : IntKind.i64.wrap (m : Int) = (m : Int) := IntWalk.i64_in _ (by omega)
      have t4 : IntKind.i64.wrap (48 + (r : Int)) = x := by rw [IntWalk.i64_in _ (by omega)]; omega
      have t5 : IntKind.u8.wrap x = x := IntWalk.u8_in _ (by omega)
      rw [← hm] at HE
      have hmn : m < n := by omega
      clear hx hr hm
      go_enter Tryz.func38, Tryz.ntmps38
      go_wp2_with fail
      apply wp_region_rg (by kernel_rfl) (false :: false :: true :: false :: false :: false :: false :: false :: false :: false :: false :: false :: false :: false :: false :: false :: false :: false :: true :: true :: true :: true :: true :: true :: true :: true :: true :: true :: []) [some 18, some 19, some 20, some 21, some 22, some 23, some 24, some 25, some 26, some 27, some 2] [[], [0], [1], [], [3], [4], [5], [6], [7], [2, 8], [9]] [StP.is _, StP.is _, StP.is _, StP.is _, StP.is _, StP.is _, StP.is _, litB x, StP.is _, StP.is _, StP.is _] (by kernel_rfl)
      case hobs =>
        refine ⟨fun y w' hS hF K hK => ?_, ?_⟩
        · skip -- 0: move
          simp only [fillL, cond_true, cond_false, List.getD_cons_zero, List.getD_cons_succ, StP.is, Act.put, List.setIfInBounds_toArray, List.set_cons_zero, List.set_cons_succ, Nat.reduceAdd] at hK ⊢
          refine rg_yes (by kernel_rfl) ?_
          clear hF
          go_simp
          exact hK _ _ (Ext.refl _) rfl
        refine ⟨fun y w' hS hF K hK => ?_, ?_⟩
        · skip -- 1: binOp
          have e18 : y 18 = _ := hF.1
          simp only [fillL, cond_true, cond_false, List.getD_cons_zero, List.getD_cons_succ, StP.is, Act.put, List.setIfInBounds_toArray, List.set_cons_zero, List.set_cons_succ, Nat.reduceAdd, e18] at hK ⊢
          refine rg_yes (by kernel_rfl) ?_
          clear e18
          clear hF
          go_simp
          exact hK _ _ (Ext.refl _) rfl
        refine ⟨fun y w' hS hF K hK => ?_, ?_⟩
        · skip -- 2: call
          have e19 : y 19 = _ := hF.1
          simp only [fillL, cond_true, cond_false, List.getD_cons_zero, List.getD_cons_succ, StP.is, Act.put, List.setIfInBounds_toArray, List.set_cons_zero, List.set_cons_succ, Nat.reduceAdd, e19] at hK ⊢
          refine rg_yes (by kernel_rfl) ?_
          clear e19
          clear hF
          go_simp
          go_at_call 38
          refine (ih m hmn (by omega) _).mono ?_
          rintro e w'' ⟨rfl, hb⟩
          exact hK _ _ hb rfl
        refine ⟨fun y w' hS hF K hK => ?_, ?_⟩
        · skip -- 3: move
          simp only [fillL, cond_true, cond_false, List.getD_cons_zero, List.getD_cons_succ, StP.is, Act.put, List.setIfInBounds_toArray, List.set_cons_zero, List.set_cons_succ, Nat.reduceAdd] at hK ⊢
          refine rg_yes (by kernel_rfl) ?_
          clear hF
          go_simp
          exact hK _ _ (Ext.refl _) rfl
        refine ⟨fun y w' hS hF K hK => ?_, ?_⟩
        · skip -- 4: binOp
          have e21 : y 21 = _ := hF.1
          simp only [fillL, cond_true, cond_false, List.getD_cons_zero, List.getD_cons_succ, StP.is, Act.put, List.setIfInBounds_toArray, List.set_cons_zero, List.set_cons_succ, Nat.reduceAdd, e21] at hK ⊢
          refine rg_yes (by kernel_rfl) ?_
          clear e21
          clear hF
          go_simp
          exact hK _ _ (Ext.refl _) rfl
        refine ⟨fun y w' hS hF K hK => ?_, ?_⟩
        · skip -- 5: binOp
          have e22 : y 22 = _ := hF.1
          simp only [fillL, cond_true, cond_false, List.getD_cons_zero, List.getD_cons_succ, StP.is, Act.put, List.setIfInBounds_toArray, List.set_cons_zero, List.set_cons_succ, Nat.reduceAdd, e22] at hK ⊢
          refine rg_yes (by kernel_rfl) ?_
          clear e22
          clear hF
          go_simp
          exact hK _ _ (Ext.refl _) rfl
        refine ⟨fun y w' hS hF K hK => ?_, ?_⟩
        · skip -- 6: convert
          have e23 : y 23 = _ := hF.1
          simp only [fillL, cond_true, cond_false, List.getD_cons_zero, List.getD_cons_succ, StP.is, Act.put, List.setIfInBounds_toArray, List.set_cons_zero, List.set_cons_succ, Nat.reduceAdd, e23] at hK ⊢
          refine rg_yes (by kernel_rfl) ?_
          clear e23
          clear hF
          go_simp
          exact hK _ _ (Ext.refl _) rfl
        refine ⟨fun y w' hS hF K hK => ?_, ?_⟩
        · skip -- 7: buildSlice
          have e24 : y 24 = _ := hF.1
          simp only [fillL, cond_true, cond_false, List.getD_cons_zero, List.getD_cons_succ, StP.is, Act.put, List.setIfInBounds_toArray, List.set_cons_zero, List.set_cons_succ, Nat.reduceAdd, e24] at hK ⊢
          refine rg_yes (by kernel_rfl) ?_
          clear e24
          clear hF
          go_simp
          exact hK _ _ (Ext.alloc _ _) ⟨_, rfl, heap_alloc_new _ _⟩
        refine ⟨fun y w' hS hF K hK => ?_, ?_⟩
        · skip -- 8: convert
          obtain ⟨g, e25, hg⟩ := hF.1
          simp only [fillL, cond_true, cond_false, List.getD_cons_zero, List.getD_cons_succ, StP.is, Act.put, List.setIfInBounds_toArray, List.set_cons_zero, List.set_cons_succ, Nat.reduceAdd, e25] at hK ⊢
          refine rg_yes (by kernel_rfl) ?_
          have hcv := conv1 hg
          clear e25
          clear hF
          go_simp
          exact hK _ _ (Ext.refl _) rfl
        refine ⟨fun y w' hS hF K hK => ?_, ?_⟩
        · skip -- 9: binOp
          have e20 : y 20 = _ := hF.1
          have e26 : y 26 = _ := hF.2.1
          simp only [fillL, cond_true, cond_false, List.getD_cons_zero, List.getD_cons_succ, StP.is, Act.put, List.setIfInBounds_toArray, List.set_cons_zero, List.set_cons_succ, Nat.reduceAdd, e20, e26] at hK ⊢
          refine rg_yes (by kernel_rfl) ?_
          clear e20 e26
          clear hF
          go_simp
          rw [if_neg (by omega)]
          go_simp
          exact hK _ _ (Ext.refl _) rfl
        refine ⟨fun y w' hS hF K hK => ?_, ?_⟩
        · skip -- 10: assign
          have e27 : y 27 = _ := hF.1
          simp only [fillL, cond_true, cond_false, List.getD_cons_zero, List.getD_cons_succ, StP.is, Act.put, List.setIfInBounds_toArray, List.set_cons_zero, List.set_cons_succ, Nat.reduceAdd, e27] at hK ⊢
          refine rg_yes (by kernel_rfl) ?_
          clear e27
          clear hF
          go_simp
          exact hK _ _ (Ext.refl _) rfl
        trivial
      case hend =>
        intro y w9 hS9 hF
        have e2 : y 2 = _ := hF.2.2.2.2.2.2.2.2.2.2.1
        clear hF
        simp only [fillL, cond_true, cond_false, Nat.reduceAdd, e2]
        clear e2
        go_wp2_with fail
        go_ret
        exact ⟨ret_str (by rw [HE.out, HR.out, strB_app]), hS9⟩
theorem itoa_any (n : Nat) (hn : n ≤ 9223372036854775807) (w : World) (ht : Tab w) : Calls Tryz.prog 68 #[.int .i64 (n : Int)] w fun e w' => e = .returned (.string (strB (decDigits n))) ∧ Below w.heap.size w w' := by
  refine (Tryz.strconv_Itoa (n : Int) (by omega) (by omega) w ht).mono ?_
  rintro e w' ⟨rfl, k, os, rfl⟩
  exact ⟨ret_str (by rw [itoa_nonneg]; rfl), grow_bel _ _ _⟩
set_option maxRecDepth 100000 in
set_option maxHeartbeats 1000000 in
theorem numPut_any (n : Int) (w : World) (ht : Tab w) : Calls Tryz.prog 36 #[.int .i64 n] w fun e w' => e = .returned (.string (strB (numS n))) ∧ Below w.heap.size w w' := by
  by_cases h : 0 ≤ n ∧ n ≤ 999999999
  · have hb := inB_yes h
    have HE := Lib.hid (numS_yes h)
    obtain ⟨m, rfl⟩ : ∃ m : Nat, n = (m : Int) := ⟨n.toNat, by omega⟩
    go_enter Tryz.func36, Tryz.ntmps36
    go_wp2_with (go_at_call 49; refine (within_any _ _ _ _).mono ?_; rw [hb]; rintro e w' ⟨rfl, rfl⟩)
    refine (itoa_any m (by omega) _ ht).mono ?_
    rintro e w1 ⟨rfl, hb1⟩
    go_wp2_with fail
    go_ret
    exact ⟨ret_str (by rw [HE.out]; simp), hb1⟩
  · have hb := inB_no h
    have HE := Lib.hid (numS_no h)
    go_enter Tryz.func36, Tryz.ntmps36
    go_wp2_with (go_at_call 49; refine (within_any _ _ _ _).mono ?_; rw [hb]; rintro e w' ⟨rfl, rfl⟩)
    go_ret
    exact ⟨ret_str (by rw [HE.out]; rfl), Below.refl _ _⟩
end Go.Proofs.YtkmkmndcgemnlaaGreatDoor
