/- markText: a mark's text. Condition: the number is below 2^40. -/
import Derived.Test.YtggdjiklgakfnaaGreatDoorTypes
import Derived.Test.YtggdjiklgakfnaaGreatDoorChecked
import Derived.Laws.BytesArg
namespace Go.Proofs.YtggdjiklgakfnaaGreatDoor
set_option linter.unusedVariables false
set_option linter.unusedSimpArgs false
set_option linter.unnecessarySimpa false
open Go.RowKit

theorem str_cons (v : Int) (o : List UInt8) : strOfNums [v] ++ ⟨o.toArray⟩ = ⟨(UInt8.ofNat v.toNat :: o).toArray⟩ := by
  apply ByteArray.ext
  simp [strOfNums]
theorem str_cons_m (o : List UInt8) : (⟨#[109]⟩ : ByteArray) ++ ⟨o.toArray⟩ = ⟨(109 :: o).toArray⟩ := by
  apply ByteArray.ext
  simp
theorem mdig_succ (f k : Nat) (out : List UInt8) : mdig (f + 1) k out = if k = 0 then out else mdig f (k / 10) (UInt8.ofNat (48 + k % 10) :: out) := rfl
theorem mdig_zero (f : Nat) (out : List UInt8) : mdig f 0 out = out := by cases f <;> simp [mdig]
set_option maxRecDepth 100000 in
set_option maxHeartbeats 2000000 in
theorem markText_any (k : Int) (w : World) (h1 : k ≤ 1099511627776) : Calls Tryz.prog 32 #[.int .i64 k] w fun e w' => e = .returned (.string (mtext k)) ∧ Below w.heap.size w w' := by
  by_cases h0 : k ≤ 0
  · have HM := Lib.hid (show mtext k = ⟨#[109, 48]⟩ by unfold mtext; rw [if_pos h0])
    go_enter Tryz.func32, Tryz.ntmps32
    go_wp2_with fail
    go_ret
    exact ⟨ret_str HM.out.symm, Below.refl _ _⟩
  · obtain ⟨m, rfl⟩ : ∃ m : Nat, k = (m : Int) := ⟨k.toNat, by omega⟩
    have HM := Lib.hid (show mtext m = ⟨(109 :: mdig m m []).toArray⟩ by unfold mtext; rw [if_neg h0]; simp)
    have hm0 : (0 : Int) < (m : Int) := by omega
    have hm1 : ¬ (m : Int) ≤ 0 := by omega
    clear h0
    have hconv : ∀ (W : World) (v : Int), (convert 22 9 (.slice (some ⟨W.heap.size, 0, none⟩) 1 1)).run Tryz.prog (W.alloc (.cells #[.int .u8 v] 5)) = .ok (.string (strOfNums [v])) (W.alloc (.cells #[.int .u8 v] 5)) :=
      fun W v => run_convert_bytes_arg (P := Tryz.prog) _ 22 5 Tryz.underlying22 Tryz.underlying5 W.heap.size 0 1 1 [v] rfl (fun i hi => by have : i = 0 := (by omega); subst this; simp [go_sem]) 9 Tryz.underlying9
    go_enter Tryz.func32, Tryz.ntmps32
    go_wp2_with fail
    go_loopw [0, 3] (fun kk out wr => ∃ (j f : Nat) (o : List UInt8), kk = .int .i64 (j : Int) ∧ out = .string ⟨o.toArray⟩ ∧ j ≤ m ∧ o.length + j ≤ m ∧ j ≤ f ∧ Hid (mdig m m [] = mdig f j o) ∧ Hid (Below w.heap.size w wr)) (fun kk _ _ => (intOf kk).toNat)
    case atStart => exact ⟨m, m, [], rfl, rfl, by omega, by simp, by omega, Lib.hid rfl, Lib.hid (Below.refl _ _)⟩
    case round =>
      obtain ⟨j, f, o, rfl, rfl, hj, ho, hf, HE, HB⟩ := hrel
      by_cases hj0 : 0 < j
      · have j0 : (0 : Int) < (j : Int) := by omega
        have j1 : (0 : Int) ≤ (j : Int) := by omega
        obtain ⟨f', rfl⟩ : ∃ f', f = f' + 1 := ⟨f - 1, by omega⟩
        have HE2 : Hid (mdig m m [] = mdig f' (j / 10) (UInt8.ofNat (48 + j % 10) :: o)) := Lib.hid (by rw [HE.out, mdig_succ, if_neg (by omega)])
        have hs1 : ∀ v, (strOfNums [v]).size = 1 := fun v => rfl
        have hol : o.length ≤ 1099511627776 := by omega
        go_wp2_with fail
        go_roundw
        case rel =>
          refine ⟨j / 10, f', UInt8.ofNat (48 + j % 10) :: o, by simp, ?_, by omega, by simp; omega, by omega, HE2, Lib.hid ?_⟩
          · rw [str_cons, show (48 + (j : Int) % 10).toNat = 48 + j % 10 by omega]
          · exact HB.out.alloc HB.out.size _
        case measure => simp [intOf]; omega
      · obtain rfl : j = 0 := by omega
        have hol : o.length ≤ 1099511627776 := by omega
        go_wp2_with fail
        go_ret
        exact ⟨ret_str (by rw [HM.out, HE.out, mdig_zero, str_cons_m]), HB.out⟩
end Go.Proofs.YtggdjiklgakfnaaGreatDoor
