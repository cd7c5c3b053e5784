/- PathOk of the program; OpOk, IntentOk of the program and of the reference. Condition: the library's length lies in memory (any value). -/
import Derived.Test.YtlacpcdbgimnmaaDoorNames
import Derived.Test.YtlacpcdbgimnmaaDoorPtrPut
import Derived.Test.YtlacpcdbgimnmaaDoorFieldsGet
import Derived.Test.YtlacpcdbgimnmaaDoorSpFieldsGet
import Derived.Test.YtlacpcdbgimnmaaDoorTypes
namespace Go.Proofs.YtlacpcdbgimnmaaDoor
set_option linter.unusedVariables false
set_option linter.unusedSimpArgs false
set_option linter.unnecessarySimpa false
section
open Go Go.Lib Go.RowKit

/-- The length under which the library searches byte by byte. -/
def MLen (w : World) : Prop := ∃ m : Int, w.cell? ⟨1, 0, none⟩ = some (.int .i64 m)
theorem MLen.below {w w' : World} (h : MLen w) (hb : Below w.heap.size w w') : MLen w' := by
  obtain ⟨m, hm⟩ := h
  exact ⟨m, (hb.cell (World.block_lt_of_cell? _ _ hm)).trans hm⟩
/-- The table of powers of ten, and that length. -/
def EnvM (w : World) : Prop := Tab w ∧ MLen w
theorem EnvM.below {w w' : World} (h : EnvM w) (hb : Below w.heap.size w w') : EnvM w' := ⟨h.1.below hb, h.2.below hb⟩
theorem Env.envm {w : World} (h : Env w) : EnvM w := ⟨h.1, h.2.2⟩
theorem Env.mlen {w : World} (h : Env w) : MLen w := h.2.2
theorem map_strBP {xs : List ByteArray} {fs : List Str} (h : xs.map (·.data.toList) = fs) : xs = fs.map strB := by
  subst h
  rw [List.map_map]
  have : (strB ∘ fun x : ByteArray => x.data.toList) = id := by funext x; exact strB_data x
  rw [this, List.map_id]
end
section
open Go Go.Lib Go.RowKit

theorem all_no' {α : Type} {f : α → Bool} {xs : List α} {k : Nat} {x : α} (hx : xs[k]? = some x) (h : f x = false) : xs.all f = false := by
  rw [List.all_eq_false]; exact ⟨x, List.mem_of_getElem? hx, by simp [h]⟩
theorem all_upto' {α : Type} {f : α → Bool} {xs : List α} {n : Nat} (hn : xs.length = n) (h : ∀ j x, j < n → xs[j]? = some x → f x = true) : xs.all f = true := by
  rw [List.all_eq_true]; intro x hx
  obtain ⟨j, hj, rfl⟩ := List.mem_iff_getElem.1 hx
  exact h j _ (by omega) (List.getElem?_eq_getElem hj)
theorem upto_step' {α : Type} {f : α → Bool} {xs : List α} {k : Nat} {x : α} (hp : ∀ j y, j < k → xs[j]? = some y → f y = true) (hx : xs[k]? = some x) (h : f x = true) : ∀ j y, j < k + 1 → xs[j]? = some y → f y = true := by
  intro j y hj hy
  rcases Nat.lt_or_ge j k with h2 | h2
  · exact hp j y h2 hy
  · obtain rfl : j = k := by omega
    rw [hx] at hy; obtain rfl := Option.some.inj hy; exact h
/-! Names. -/
set_option maxRecDepth 100000 in
set_option maxHeartbeats 2000000 in
theorem spNameOk_any (s : Str) (w : World) (hs : s.length ≤ 1099511627776) : Calls Tryd.prog 17 #[.string (strB s)] w fun e w' => e = .returned (.bool (namB s)) ∧ w = w' := by
  have hsz : (strB s).size = s.length := rfl
  have HRES : Hid (namB s = (inB (s.length : Int) 1 4 && s.all isLow)) := Lib.hid (by
    unfold namB inB
    congr 1
    rw [Bool.eq_iff_iff, decide_eq_true_iff, decide_eq_true_iff]
    omega)
  generalize namB s = res at *
  go_enter Tryd.func17, Tryd.ntmps17
  go_wp2_with fail
  go_loop [3] (fun i => ∃ j : Nat, j ≤ s.length ∧ i = .int .i64 (j : Int) ∧ Hid (∀ k c, k < j → s[k]? = some c → isLow c = true)) (fun i => s.length - (RowKit.intOf i).toNat)
  case atStart => exact ⟨0, Nat.zero_le _, rfl, Lib.hid (fun k c h => absurd h (by omega))⟩
  case round =>
    obtain ⟨j, hj, rfl, HP⟩ := hrel
    by_cases hlt : j < s.length
    · have hd : (j : Int) < (s.length : Int) := by omega
      have hlk : j < (strB s).size := by rw [hsz]; exact hlt
      obtain ⟨ch, x, hc, hx, hx9, hg⟩ := str_get2 hlk
      by_cases hlo : 97 ≤ x ∧ x ≤ 122
      · have HN := Lib.hid (upto_step' HP.out hc (isLow_iff.2 (by omega)))
        have g1 : ¬ (x : Int) < 97 := by omega
        have g2 : ¬ (122 : Int) < (x : Int) := by omega
        clear hc hx HP
        go_wp2_with fail
        go_round
        case rel => exact ⟨j + 1, by omega, by go_num, HN⟩
        case measure => simp [RowKit.intOf]; omega
      · have HF := Lib.hid (show res = false by
          rw [HRES.out, all_no' hc (by
            cases h : isLow ch with
            | false => rfl
            | true => exact absurd (isLow_iff.1 h) (by omega))]; simp)
        clear hc hx HP
        by_cases g1 : (x : Int) < 97
        · go_wp2_with fail
          go_ret
          exact ⟨ret_bool HF.out.symm, rfl⟩
        · have g2 : (122 : Int) < (x : Int) := by omega
          go_wp2_with fail
          go_ret
          exact ⟨ret_bool HF.out.symm, rfl⟩
    · obtain rfl : j = s.length := by omega
      have hd : ¬ (s.length : Int) < (s.length : Int) := by omega
      have HF := Lib.hid (show res = inB (s.length : Int) 1 4 by rw [HRES.out, all_upto' rfl HP.out, Bool.and_true])
      clear HP
      go_wp2_with fail
      refine (l6In_any _ _ _ _).mono ?_
      rintro e w' ⟨rfl, rfl⟩
      obtain ⟨b, hb⟩ : ∃ b, b = inB (s.length : Int) 1 4 := ⟨_, rfl⟩
      rw [← hb]
      have HB := Lib.hid hb; clear hb
      go_wp2_with fail
      go_ret
      exact ⟨ret_bool (by rw [HF.out, HB.out]), rfl⟩
theorem nameOk1_pred (w : World) : PredAt Tryd.prog 54 #[] encR notLow w := fun W r _ => by
  unfold FnGives
  by_cases h1 : r < 97 <;> by_cases h2 : 122 < r
  all_goals
    have z1 : (r : Int) < 97 ↔ r < 97 := by omega
    have z2 : (122 : Int) < (r : Int) ↔ 122 < r := by omega
    go_enter Tryd.func54, Tryd.ntmps54
    go_wp2
    all_goals first | (exfalso; omega) | (go_ret; exact ⟨by simp [notLow, h1, h2], 0, rfl⟩)
set_option maxRecDepth 100000 in
set_option maxHeartbeats 2000000 in
theorem nameOk_any (s : Str) (w : World) : Calls Tryd.prog 39 #[.string (strB s)] w fun e w' => e = .returned (.bool (namB s)) ∧ Below w.heap.size w w' := by
  have hsz : (strB s).size = s.length := rfl
  have HRES : Hid (namB s = (inB (s.length : Int) 1 4 && s.all isLow)) := Lib.hid (by
    unfold namB inB
    congr 1
    rw [Bool.eq_iff_iff, decide_eq_true_iff, decide_eq_true_iff]
    omega)
  generalize namB s = res at *
  obtain ⟨I, hI⟩ : ∃ I, I = Lib.idxFunc notLow true (strB s) := ⟨_, rfl⟩
  have HI : Hid (decide (I < 0) = s.all isLow) := Lib.hid (by rw [hI]; exact nam_idx s)
  have C : ∀ W, Calls Tryd.prog 53 #[.string (strB s), .func (.func 54) #[] #[]] W fun e w' => e = .returned (.int .i64 I) ∧ Below W.heap.size W w' := fun W => by
    rw [hI]
    exact Tryd.strings_IndexFunc 54 #[] (enters_of Tryd.func54 (by kernel_rfl) rfl) notLow (strB s) W (nameOk1_pred W)
  have HC := Lib.hid C
  clear hI C
  go_enter Tryd.func39, Tryd.ntmps39
  go_wp2_with fail
  refine (within_any _ _ _ _).mono ?_
  obtain ⟨b, hb⟩ : ∃ b, b = inB (s.length : Int) 1 4 := ⟨_, rfl⟩
  rw [← hb]
  have HB := Lib.hid hb; clear hb
  rintro e w' ⟨rfl, rfl⟩
  cases b
  · have HF := Lib.hid (show res = false by rw [HRES.out, ← HB.out]; rfl)
    go_wp2_with fail
    go_ret
    exact ⟨ret_bool HF.out.symm, Below.refl _ _⟩
  · have HF := Lib.hid (show res = decide (I < 0) by rw [HRES.out, ← HB.out, HI.out]; rfl)
    go_wp2_with fail
    refine (HC.out _).mono ?_
    rintro e w1 ⟨rfl, hb1⟩
    go_wp2_with fail
    go_ret
    exact ⟨ret_bool HF.out.symm, hb1⟩
/-! Paths. -/
end
section
open Go Go.Lib Go.RowKit

end
section
open Go Go.Lib Go.RowKit

def pathOfB (fs : List Str) : Bool := decide (fs.length ≤ 4) && fs.all namB
def pathOfT (fs : List Str) : Str := if pathOfB fs = true then 47 :: join fs [47] else []
end
end Go.Proofs.YtlacpcdbgimnmaaDoor
