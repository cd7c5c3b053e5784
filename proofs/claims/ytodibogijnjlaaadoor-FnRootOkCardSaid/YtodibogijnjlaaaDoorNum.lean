/- NumPut both: the decimal numeral of a number in range, else the empty text; l6Dec. Condition: the table of powers of ten lies as its initialiser lays it. -/
import Derived.Test.YtodibogijnjlaaaDoorRecs
import Derived.Test.YtodibogijnjlaaaDoorTab
import Derived.Test.YtodibogijnjlaaaDoorRg
import Derived.Test.YtodibogijnjlaaaDoorShelf
import Derived.Laws.BytesArg
namespace Go.Proofs.YtodibogijnjlaaaDoor
set_option linter.unusedVariables false
set_option linter.unusedSimpArgs false
set_option linter.unnecessarySimpa false
open Go Go.Lib Go.RowKit

theorem one_digit {d : Nat} (h : d < 10) : strOfNums [((48 + d : Nat) : Int)] = strB [UInt8.ofNat (48 + d)] := by
  have e : strOfNums [((48 + d : Nat) : Int)] = ⟨#[UInt8.ofNat (((48 + d : Nat) : Int)).toNat]⟩ := rfl
  rw [e, Int.toNat_natCast]
  rfl
theorem grow_bel (w : World) (k : Nat) (os : Array Obj) : Below w.heap.size w (Sort.grow (w.drewN k) os) :=
  ⟨rfl, rfl, rfl, by simp [Sort.grow], fun i hi => by show (w.heap ++ os)[i]? = w.heap[i]?; exact Array.getElem?_append_left hi⟩
theorem conv1 {w : World} {g : Nat} {v : Int} (hg : w.heap[g]? = some (.cells #[.int .u8 v] 5 (0, 0))) :
    (convert 22 9 (.slice (some ⟨g, 0, none⟩) 1 1)).run Tryd.prog w = .ok (.string (strOfNums [v])) w :=
  run_convert_bytes_arg (P := Tryd.prog) _ 22 5 Tryd.underlying22 Tryd.underlying5 g 0 1 1 [v] rfl (fun i hi => by have : i = 0 := (by omega); subst this; exact cell_of_row _ _ 0 _ _ (0, 0) hg) 9 Tryd.underlying9
def litB (d : Int) : StP := ⟨fun v w => ∃ g : Nat, v = .slice (some ⟨g, 0, none⟩) 1 1 ∧ w.heap[g]? = some (.cells #[.int .u8 d] 5 (0, 0)), fun v w w' hs ⟨g, e, hg⟩ => ⟨g, e, (Below.block hs g (Array.getElem?_eq_some_iff.1 hg).1).trans hg⟩⟩
theorem sz1 (v : Int) : (strOfNums [v]).size = 1 := rfl
theorem quo10 {n : Nat} : (n : Int) / 10 = ((n / 10 : Nat) : Int) := by omega
theorem rem10 {n : Nat} : 48 + (n : Int) % 10 = ((48 + n % 10 : Nat) : Int) := by omega
theorem itoa_any (n : Nat) (hn : n ≤ 9223372036854775807) (w : World) (ht : Tab w) : Calls Tryd.prog 25 #[.int .i64 (n : Int)] w fun e w' => e = .returned (.string (strB (decDigits n))) ∧ Below w.heap.size w w' := by
  refine (Tryd.strconv_Itoa (n : Int) (by omega) (by omega) w ht).mono ?_
  rintro e w' ⟨rfl, k, os, rfl⟩
  exact ⟨ret_str (by rw [itoa_nonneg]; rfl), grow_bel _ _ _⟩
set_option maxRecDepth 100000 in
set_option maxHeartbeats 1000000 in
theorem numPut_any (n : Int) (w : World) (ht : Tab w) : Calls Tryd.prog 15 #[.int .i64 n] w fun e w' => e = .returned (.string (strB (numS n))) ∧ Below w.heap.size w w' := by
  by_cases h : 0 ≤ n ∧ n ≤ 999999999
  · have hb := inB_yes h
    have HE := Lib.hid (numS_yes h)
    obtain ⟨m, rfl⟩ : ∃ m : Nat, n = (m : Int) := ⟨n.toNat, by omega⟩
    go_enter Tryd.func15, Tryd.ntmps15
    go_wp2_with (go_at_call 10; refine (within_any _ _ _ _).mono ?_; rw [hb]; rintro e w' ⟨rfl, rfl⟩)
    refine (itoa_any m (by omega) _ ht).mono ?_
    rintro e w1 ⟨rfl, hb1⟩
    go_wp2_with fail
    go_ret
    exact ⟨ret_str (by rw [HE.out]; simp), hb1⟩
  · have hb := inB_no h
    have HE := Lib.hid (numS_no h)
    go_enter Tryd.func15, Tryd.ntmps15
    go_wp2_with (go_at_call 10; refine (within_any _ _ _ _).mono ?_; rw [hb]; rintro e w' ⟨rfl, rfl⟩)
    go_ret
    exact ⟨ret_str (by rw [HE.out]; rfl), Below.refl _ _⟩
end Go.Proofs.YtodibogijnjlaaaDoor
