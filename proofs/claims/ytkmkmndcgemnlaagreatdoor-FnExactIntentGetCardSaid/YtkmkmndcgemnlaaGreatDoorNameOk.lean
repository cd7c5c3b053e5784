/- NameOk, PathOk, OpOk, IntentOk of the program and of the reference. Condition: the library's length lies in memory (any value). -/
import Derived.Test.YtkmkmndcgemnlaaGreatDoorPathGet
import Derived.Test.YtkmkmndcgemnlaaGreatDoorSmall
namespace Go.Proofs.YtkmkmndcgemnlaaGreatDoor
set_option linter.unusedVariables false
set_option linter.unusedSimpArgs false
set_option linter.unnecessarySimpa false
open Go Go.Lib Go.RowKit

theorem all_no' {α : Type} {f : α → Bool} {xs : List α} {k : Nat} {x : α} (hx : xs[k]? = some x) (h : f x = false) : xs.all f = false := by
  rw [List.all_eq_false]; exact ⟨x, List.mem_of_getElem? hx, by simp [h]⟩
theorem all_upto' {α : Type} {f : α → Bool} {xs : List α} {n : Nat} (hn : xs.length = n) (h : ∀ j x, j < n → xs[j]? = some x → f x = true) : xs.all f = true := by
  rw [List.all_eq_true]; intro x hx
  obtain ⟨j, hj, rfl⟩ := List.mem_iff_getElem.1 hx
  exact h j _ (by omega) (List.getElem?_eq_getElem hj)
theorem upto_step' {α : Type} {f : α → Bool} {xs : List α} {k : Nat} {x : α} (hp : ∀ j y, j < k → xs[j]? = some y → f y = true) (hx : xs[k]? = some x) (h : f x = true) : ∀ j y, j < k + 1 → xs[j]? = some y → f y = true := by
  intro j y hj hy
  rcases Nat.lt_or_ge j k with h2 | h2
  · exact hp j y h2 hy
  · obtain rfl : j = k := by omega
    rw [hx] at hy; obtain rfl := Option.some.inj hy; exact h
/-! Names. -/
set_option maxRecDepth 100000 in
set_option maxHeartbeats 2000000 in
theorem spNameOk_any (s : Str) (w : World) (hs : s.length ≤ 1099511627776) : Calls Tryz.prog 70 #[.string (strB s)] w fun e w' => e = .returned (.bool (namB s)) ∧ w = w' := by
  have hsz : (strB s).size = s.length := rfl
  have HRES : Hid (namB s = (inB (s.length : Int) 1 4 && s.all isLow)) := Lib.hid (by
    unfold namB inB
    congr 1
    rw [Bool.eq_iff_iff, decide_eq_true_iff, decide_eq_true_iff]
    omega)
  generalize namB s = res at *
  go_enter Tryz.func70, Tryz.ntmps70
  go_wp2_with fail
  go_loop [3] (fun i => ∃ j : Nat, j ≤ s.length ∧ i = .int .i64 (j : Int) ∧ Hid (∀ k c, k < j → s[k]? = some c → isLow c = true)) (fun i => s.length - (RowKit.intOf i).toNat)
  case atStart => exact ⟨0, Nat.zero_le _, rfl, Lib.hid (fun k c h => absurd h (by omega))⟩
  case round =>
    obtain ⟨j, hj, rfl, HP⟩ := hrel
    by_cases hlt : j < s.length
    · have hd : (j : Int) < (s.length : Int) := by omega
      have hlk : j < (strB s).size := by rw [hsz]; exact hlt
      obtain ⟨ch, x, hc, hx, hx9, hg⟩ := str_get2 hlk
      by_cases hlo : 97 ≤ x ∧ x ≤ 122
      · have HN := Lib.hid (upto_step' HP.out hc (isLow_iff.2 (by omega)))
        have g1 : ¬ (x : Int) < 97 := by omega
        have g2 : ¬ (122 : Int) < (x : Int) := by omega
        clear hc hx HP
        go_wp2_with fail
        go_round
        case rel => exact ⟨j + 1, by omega, by go_num, HN⟩
        case measure => simp [RowKit.intOf]; omega
      · have HF := Lib.hid (show res = false by
          rw [HRES.out, all_no' hc (by
            cases h : isLow ch with
            | false => rfl
            | true => exact absurd (isLow_iff.1 h) (by omega))]; simp)
        clear hc hx HP
        by_cases g1 : (x : Int) < 97
        · go_wp2_with fail
          go_ret
          exact ⟨ret_bool HF.out.symm, rfl⟩
        · have g2 : (122 : Int) < (x : Int) := by omega
          go_wp2_with fail
          go_ret
          exact ⟨ret_bool HF.out.symm, rfl⟩
    · obtain rfl : j = s.length := by omega
      have hd : ¬ (s.length : Int) < (s.length : Int) := by omega
      have HF := Lib.hid (show res = inB (s.length : Int) 1 4 by rw [HRES.out, all_upto' rfl HP.out, Bool.and_true])
      clear HP
      go_wp2_with fail
      refine (l6In_any _ _ _ _).mono ?_
      rintro e w' ⟨rfl, rfl⟩
      obtain ⟨b, hb⟩ : ∃ b, b = inB (s.length : Int) 1 4 := ⟨_, rfl⟩
      rw [← hb]
      have HB := Lib.hid hb; clear hb
      go_wp2_with fail
      go_ret
      exact ⟨ret_bool (by rw [HF.out, HB.out]), rfl⟩
theorem nameOk1_pred (w : World) : PredAt Tryz.prog 76 #[] encR notLow w := fun W r _ => by
  unfold FnGives
  by_cases h1 : r < 97 <;> by_cases h2 : 122 < r
  all_goals
    have z1 : (r : Int) < 97 ↔ r < 97 := by omega
    have z2 : (122 : Int) < (r : Int) ↔ 122 < r := by omega
    go_enter Tryz.func76, Tryz.ntmps76
    go_wp2
    all_goals first | (exfalso; omega) | (go_ret; exact ⟨by simp [notLow, h1, h2], 0, rfl⟩)
set_option maxRecDepth 100000 in
set_option maxHeartbeats 2000000 in
theorem nameOk_any (s : Str) (w : World) : Calls Tryz.prog 50 #[.string (strB s)] w fun e w' => e = .returned (.bool (namB s)) ∧ Below w.heap.size w w' := by
  have hsz : (strB s).size = s.length := rfl
  have HRES : Hid (namB s = (inB (s.length : Int) 1 4 && s.all isLow)) := Lib.hid (by
    unfold namB inB
    congr 1
    rw [Bool.eq_iff_iff, decide_eq_true_iff, decide_eq_true_iff]
    omega)
  generalize namB s = res at *
  obtain ⟨I, hI⟩ : ∃ I, I = Lib.idxFunc notLow true (strB s) := ⟨_, rfl⟩
  have HI : Hid (decide (I < 0) = s.all isLow) := Lib.hid (by rw [hI]; exact nam_idx s)
  have C : ∀ W, Calls Tryz.prog 75 #[.string (strB s), .func (.func 76) #[] #[]] W fun e w' => e = .returned (.int .i64 I) ∧ Below W.heap.size W w' := fun W => by
    rw [hI]
    exact Tryz.strings_IndexFunc 76 #[] (enters_of Tryz.func76 (by kernel_rfl) rfl) notLow (strB s) W (nameOk1_pred W)
  have HC := Lib.hid C
  clear hI C
  go_enter Tryz.func50, Tryz.ntmps50
  go_wp2_with fail
  refine (within_any _ _ _ _).mono ?_
  obtain ⟨b, hb⟩ : ∃ b, b = inB (s.length : Int) 1 4 := ⟨_, rfl⟩
  rw [← hb]
  have HB := Lib.hid hb; clear hb
  rintro e w' ⟨rfl, rfl⟩
  cases b
  · have HF := Lib.hid (show res = false by rw [HRES.out, ← HB.out]; rfl)
    go_wp2_with fail
    go_ret
    exact ⟨ret_bool HF.out.symm, Below.refl _ _⟩
  · have HF := Lib.hid (show res = decide (I < 0) by rw [HRES.out, ← HB.out, HI.out]; rfl)
    go_wp2_with fail
    refine (HC.out _).mono ?_
    rintro e w1 ⟨rfl, hb1⟩
    go_wp2_with fail
    go_ret
    exact ⟨ret_bool HF.out.symm, hb1⟩
/-! Paths. -/
def NamesR (s : Str) (w : World) (e : Ending) (w' : World) : Prop := ∃ A n c, e = .returned (.slice A n c) ∧ n = (splitP s).length ∧ RowAt w' A n ((splitP s).map strV) ∧ Below w.heap.size w w'
theorem StrsIn.tail {B : Nat} {w : World} {A : Option Addr} {c : Nat} {x : Str} {fs : List Str} {g : Nat} (h : StrsIn B w A c (x :: fs)) (hA : A = some ⟨g, 0, none⟩) : RowAt w (some ⟨g, 1, none⟩) fs.length (fs.map strV) := by
  refine ⟨by simp, fun hn => ⟨g, 1, rfl, fun j hj => ?_⟩⟩
  obtain ⟨g', hA', _, hc⟩ := h.cell (j := j + 1) (f := fs[j]) (by simp [hj])
  rw [hA] at hA'
  injection hA' with e1
  injection e1 with e2
  subst e2
  rw [show 1 + j = j + 1 by omega, hc, List.getElem?_map, List.getElem?_eq_getElem hj]
  rfl
set_option maxRecDepth 100000 in
set_option maxHeartbeats 2000000 in
theorem l14Names_any (r : Str) (w : World) (hr : r ≠ []) (hs : r.length ≤ 3000000000) : Calls Tryz.prog 106 #[.string (strB (47 :: r))] w (NamesR r w) := by
  have h1 : ((strB (47 :: r)).toList == [47]) = false := by rw [strB_list]; simpa using hr
  have h2 : ¬ (strB (47 :: r)).toList = [47] := by rw [strB_list]; simpa using hr
  have hsp : splitP (47 :: r) = [] :: splitP r := splitP_cut (a := []) (by simp)
  have HSP := Lib.hid hsp; clear hsp
  go_enter Tryz.func106, Tryz.ntmps106
  go_wp2_with fail
  refine (l2CutP_any (47 :: r) w (by simp; omega)).mono ?_
  rintro e w1 ⟨A, c, rfl, hI, hb⟩
  rw [HSP.out] at hI ⊢
  have hc : (splitP r).length + 1 ≤ c := by have := hI.le; simpa using this
  obtain ⟨g, hA, _, _⟩ := hI.cell (j := 0) (f := []) rfl
  have hR := hI.tail hA
  subst hA
  clear hI
  obtain ⟨n, hn⟩ : ∃ n, n = (splitP r).length := ⟨_, rfl⟩
  rw [List.length_cons, ← hn]
  rw [← hn] at hc hR
  have HN := Lib.hid hn
  have HR := Lib.hid hR
  clear hn hR
  by_cases hc1 : c = 1
  · have hn0 : n = 0 := by omega
    subst hn0 hc1
    have HR2 : Hid (∀ A, RowAt w1 A 0 ((splitP r).map strV)) := Lib.hid (fun A => ⟨by rw [List.length_map, ← HN.out], fun h => absurd h (by omega)⟩)
    go_wp2_with fail
    go_ret
    exact ⟨_, 0, 0, rfl, HN.out, HR2.out _, hb⟩
  · have k1 : (1 : Int) ≤ ((n + 1 : Nat) : Int) := by omega
    have k2 : ((n + 1 : Nat) : Int) ≤ (c : Int) := by omega
    go_wp2_with fail
    go_ret
    exact ⟨_, n, c - 1, by simp, HN.out, HR.out, hb⟩
end Go.Proofs.YtkmkmndcgemnlaaGreatDoor
