/- A node of a table's list by its number (both's getF). No condition. -/
import Derived.Test.YtjnhiiaejeaikaaGreatDoorRTableOk
set_option linter.unnecessarySimpa false
set_option linter.unusedSimpArgs false
set_option linter.unusedVariables false
namespace Go.Proofs.YtjnhiiaejeaikaaGreatDoor
open Go.RowKit
def gotN (o : Option NodeD) : Value := .tuple #[nodeV (o.getD zeroN), .bool o.isSome]
theorem gotN_no {o : Option NodeD} (h : o = none) : gotN o = .tuple #[.agg #[.int .i64 0, .int .i64 0, .int .i64 0, .int .i64 0, .int .i64 0, .int .i64 0, .int .i64 0, .int .i64 0, .int .i64 0, .int .i64 0], .bool false] := by rw [h]; rfl
theorem gotN_yes {o : Option NodeD} {i j z a b s m l d n : Int} (h : o = some (i, j, z, (a, b, s, m, l), d, n)) : gotN o = .tuple #[.agg #[.int .i64 i, .int .i64 j, .int .i64 z, .int .i64 a, .int .i64 b, .int .i64 s, .int .i64 m, .int .i64 l, .int .i64 d, .int .i64 n], .bool true] := by rw [h]; rfl
set_option maxRecDepth 100000 in
set_option maxHeartbeats 8000000 in
theorem nodeAt_any (A : Option Addr) (n c : Nat) (L : List (Option NodeD)) (k : Int) (w : World) (lo hi : Nat) (h : SliceR NodePR 1 w lo hi A n c L) :
 Calls Tryz.prog 44 #[.slice A n c, .int .i64 k] w fun e w' => e = .returned (gotN (getF L k)) ∧ Below w.heap.size w w' := by
 have hl := h.len
 have hmx := h.max
 by_cases hk : 0 ≤ k ∧ k ≤ (n : Int) - 1
 · obtain ⟨kk, rfl⟩ : ∃ kk : Nat, k = (kk : Int) := ⟨k.toNat, by omega⟩
   have hkn : kk < n := by omega
   obtain ⟨o, ho⟩ : ∃ o, L[kk]? = some o := ⟨L[kk]'(by omega), List.getElem?_eq_getElem _⟩
   obtain ⟨b, off, rfl, hb1, hb2, hb3, hc⟩ := h.at_ (by omega)
   obtain ⟨cs, hcs, hcv, v, rfl, hv⟩ := hc kk o ho
   have hcell : w.cell? ⟨b, off + kk, none⟩ = some v := by have := hcv 0 v rfl; simpa using this
   have HG := Lib.hid (getF_in ho)
   have HIN := Lib.hid (show inB (kk : Int) 0 ((n : Int) - 1) = true by unfold inB; simp; omega)
   have k0 : (0 : Int) ≤ (kk : Int) := by omega
   have k1 : (kk : Int) < (n : Int) := by omega
   have hfar : (w.alloc (.cells #[.int .i64 0, .int .i64 0, .int .i64 0, .int .i64 0, .int .i64 0, .int .i64 0, .int .i64 0, .int .i64 0, .int .i64 0, .int .i64 0] 53)).cell? ⟨b, off + kk, none⟩ = some v := (Below.cell (bel1 (w := w)) hb3).trans hcell
   cases o with
   | none =>
     have hv' : v = .pointer none := hv
     subst hv'
     clear hc hcv hv
     go_enter Tryz.func44, Tryz.ntmps44
     go_wp2_with fail
     refine (within_any _ _ _ _).mono ?_
     rw [HIN.out]
     rintro e w1 ⟨rfl, rfl⟩
     go_wp2_with fail
     exact bodyPost_ret (v := gotN (getF L (kk : Int))) (by rw [gotN_no HG.out]; simp [results, Tryz.results44, go_sem]) rfl ⟨rfl, by repeat (first | exact Below.refl _ _ | assumption | refine Below.setCell ?_ (by simp <;> omega) _ | refine Below.alloc ?_ (by simp <;> omega) _)⟩
   | some N =>
     obtain ⟨g, rfl, g1, g2, hg⟩ := hv
     obtain ⟨i, j, z, ⟨a, b', s, m, l⟩, d, n'⟩ := N
     have hgl : g < w.heap.size := (Array.getElem?_eq_some_iff.1 hg).1
     have hg' : (w.alloc (.cells #[.int .i64 0, .int .i64 0, .int .i64 0, .int .i64 0, .int .i64 0, .int .i64 0, .int .i64 0, .int .i64 0, .int .i64 0, .int .i64 0] 53)).heap[g]? = some (.cells #[.int .i64 i, .int .i64 j, .int .i64 z, .int .i64 a, .int .i64 b', .int .i64 s, .int .i64 m, .int .i64 l, .int .i64 d, .int .i64 n'] 53 (0, 0)) := (Below.heap_alloc _ _ _ hgl).trans hg
     clear hc hcv
     have n0 := celR 0 hg'; have n1 := celR 1 hg'; have n2 := celR 2 hg'; have n3 := celR 3 hg'; have n4 := celR 4 hg'; have n5 := celR 5 hg'; have n6 := celR 6 hg'; have n7 := celR 7 hg'; have n8 := celR 8 hg'; have n9 := celR 9 hg'
     clear hg hg'
     go_enter Tryz.func44, Tryz.ntmps44
     go_wp2_with fail
     refine (within_any _ _ _ _).mono ?_
     rw [HIN.out]
     rintro e w1 ⟨rfl, rfl⟩
     go_wp2_with fail
     exact bodyPost_ret (v := gotN (getF L (kk : Int))) (by rw [gotN_yes HG.out]; simp [results, Tryz.results44, go_sem]) rfl ⟨rfl, by repeat (first | exact Below.refl _ _ | assumption | refine Below.setCell ?_ (by simp <;> omega) _ | refine Below.alloc ?_ (by simp <;> omega) _)⟩
 have HG := Lib.hid (getF_out (L := L) (k := k) (by rw [hl]; exact hk))
 have HIN := Lib.hid (show inB k 0 ((n : Int) - 1) = false by unfold inB; simp; omega)
 go_enter Tryz.func44, Tryz.ntmps44
 go_wp2_with fail
 refine (within_any _ _ _ _).mono ?_
 rw [HIN.out]
 rintro e w1 ⟨rfl, rfl⟩
 go_wp2_with fail
 exact bodyPost_ret (v := gotN (getF L k)) (by rw [gotN_no HG.out]; simp [results, Tryz.results44, go_sem]) rfl ⟨rfl, by repeat (first | exact Below.refl _ _ | assumption | refine Below.setCell ?_ (by simp <;> omega) _ | refine Below.alloc ?_ (by simp <;> omega) _)⟩
end Go.Proofs.YtjnhiiaejeaikaaGreatDoor
