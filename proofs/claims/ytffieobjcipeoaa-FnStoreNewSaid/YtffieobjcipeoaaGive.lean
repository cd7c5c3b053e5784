/- SpaceGive, of the program and of the reference. No condition. -/
import Derived.Test.YtffieobjcipeoaaTake
namespace Go.Proofs.Ytffieobjcipeoaa
set_option linter.unusedVariables false
set_option linter.unusedSimpArgs false
set_option linter.unnecessarySimpa false
open Go.RowKit

def giveOk (xs ys : List Int) (at_ : Int) : Bool := spOk xs ys && inB at_ 8 63 && decide (¬ xs.getD at_.toNat 0 = 0)
def giveX (xs ys : List Int) (at_ : Int) : List Int := if giveOk xs ys at_ then xs.set at_.toNat (xs.getD at_.toNat 0 - 1) else []
def lastOf (x : Int) (ys : List Int) (a : Nat) : List Int := if x - 1 = 0 then ys.set a 0 else ys
def giveY (xs ys : List Int) (at_ : Int) : List Int := if giveOk xs ys at_ then lastOf (xs.getD at_.toNat 0) ys at_.toNat else []
theorem set_get_self {l : List Int} {a : Nat} : l.set a (l.getD a 0) = l := by
  apply List.ext_getElem?
  intro i
  simp only [List.getElem?_set, List.getD]
  by_cases h : a = i
  · subst h
    by_cases h2 : a < l.length
    · rw [if_pos rfl, if_pos h2, List.getElem?_eq_getElem h2]; rfl
    · rw [if_pos rfl, if_neg h2, List.getElem?_eq_none (by omega)]
  · rw [if_neg h]

set_option maxHeartbeats 1000000 in
theorem give_any (p g k c d : Nat) (a : Nat) (xs ys : List Int) (w : World) (ha : a < 64) (h0 : w.cell? ⟨p, 0, none⟩ = some (.slice (some ⟨g, 0, none⟩) 64 c)) (h1 : w.cell? ⟨p, 1, none⟩ = some (.slice (some ⟨k, 0, none⟩) 64 d))
    (og : OwnI w g 64 c xs) (ok : OwnI w k 64 d ys) (hgk : g ≠ k) (hpg : g ≠ p) (hpk : k ≠ p) (hx : 1 ≤ xs.getD a 0 ∧ xs.getD a 0 ≤ 900) :
    Calls Try.prog 126 #[.pointer (some ⟨p, 0, none⟩), .int .i64 a] w fun e w' =>
      e = .returned (.tuple #[]) ∧ OwnI w' g 64 c (xs.set a (xs.getD a 0 - 1)) ∧ OwnI w' k 64 d (lastOf (xs.getD a 0) ys a) ∧ Chg (· ∈ [g, k]) w w' := by
  have xg := og.cell (j := a) ha
  have xk := ok.cell (j := a) ha
  have fg := og.frozen a
  have fk := ok.frozen a
  have n1 := hgk.symm
  have n2 := hpg.symm
  have n3 := hpk.symm
  obtain ⟨x, hxe⟩ : ∃ x, x = xs.getD a 0 := ⟨_, rfl⟩
  obtain ⟨y, hye⟩ : ∃ y, y = ys.getD a 0 := ⟨_, rfl⟩
  rw [← hxe] at xg hx ⊢
  rw [← hye] at xk
  have og2 := og.set_ (j := a) ha (x - 1)
  have ok2 := ok.setOther (p := ⟨g, a, none⟩) n1 (.int .i64 (x - 1))
  have hc1 : Chg (· ∈ [g, k]) w (w.setCell ⟨g, a, none⟩ (.int .i64 (x - 1))) := (Chg.refl _ _).setCell (.inl (by simp)) _
  obtain ⟨hx1, hx9⟩ := hx
  have OG := Lib.hid og2
  have OK := Lib.hid ok2
  have HC := Lib.hid hc1
  clear hxe hye og ok og2 ok2 hc1
  by_cases hz : x = 1
  · subst hz
    have e : lastOf 1 ys a = ys.set a 0 := by unfold lastOf; rw [if_pos (by omega)]
    have HE := Lib.hid e
    clear e
    go_enter Try.func126, Try.ntmps126
    go_wp2_with fail
    go_end0
    rw [HE.out]
    exact ⟨rfl, OG.out.setOther hgk _, OK.out.set_ ha 0, HC.out.setCell (.inl (by simp)) _⟩
  · have e : lastOf x ys a = ys := by unfold lastOf; rw [if_neg (by omega)]
    have e2 : (x - 1 == 0) = false := by simp; omega
    have HE := Lib.hid e
    clear e
    go_enter Try.func126, Try.ntmps126
    go_wp2_with fail
    go_end0
    rw [HE.out]
    exact ⟨rfl, OG.out, OK.out, HC.out⟩

set_option maxHeartbeats 1000000 in
theorem l5Give_any (g k c d : Nat) (a : Nat) (xs ys : List Int) (w : World) (ha : a < 64)
    (og : OwnI w g 64 c xs) (ok : OwnI w k 64 d ys) (hgk : g ≠ k) (hx : 1 ≤ xs.getD a 0 ∧ xs.getD a 0 ≤ 900) :
    Calls Try.prog 112 #[.agg #[.slice (some ⟨g, 0, none⟩) 64 c, .slice (some ⟨k, 0, none⟩) 64 d], .int .i64 a] w fun e w' =>
      e = .returned (.agg #[.slice (some ⟨g, 0, none⟩) 64 c, .slice (some ⟨k, 0, none⟩) 64 d]) ∧ OwnI w' g 64 c (xs.set a (xs.getD a 0 - 1)) ∧ OwnI w' k 64 d (lastOf (xs.getD a 0) ys a) ∧ Chg (· ∈ [g, k]) w w' := by
  have lg := og.lt
  have lk := ok.lt
  have xg := og.cell (j := a) ha
  have xk := ok.cell (j := a) ha
  have fg := og.frozen a
  have fk := ok.frozen a
  have n1 := hgk.symm
  have n2 : g ≠ w.heap.size := by omega
  have n3 : k ≠ w.heap.size := by omega
  have n4 := n2.symm
  have n5 := n3.symm
  have n6 : g ≠ w.heap.size + 1 := by omega
  have n7 : k ≠ w.heap.size + 1 := by omega
  have n8 := n6.symm
  have n9 := n7.symm
  obtain ⟨x, hxe⟩ : ∃ x, x = xs.getD a 0 := ⟨_, rfl⟩
  obtain ⟨y, hye⟩ : ∃ y, y = ys.getD a 0 := ⟨_, rfl⟩
  rw [← hxe] at xg hx ⊢
  rw [← hye] at xk
  have og2 := og.set_ (j := a) ha (x - 1)
  have ok2 := ok.setOther (p := ⟨g, a, none⟩) n1 (.int .i64 (x - 1))
  have hc1 : Chg (· ∈ [g, k]) w (w.setCell ⟨g, a, none⟩ (.int .i64 (x - 1))) := (Chg.refl _ _).setCell (.inl (by simp)) _
  obtain ⟨hx1, hx9⟩ := hx
  have OG := Lib.hid og2
  have OK := Lib.hid ok2
  have HC := Lib.hid hc1
  clear hxe hye og ok og2 ok2 hc1
  by_cases hz : x = 1
  · subst hz
    have e : lastOf 1 ys a = ys.set a 0 := by unfold lastOf; rw [if_pos (by omega)]
    have HE := Lib.hid e
    clear e
    go_enter Try.func112, Try.ntmps112
    go_wp2_with fail
    go_region
    all_goals go_wp2_with fail
    all_goals
      refine bodyPost_ret (v := .agg #[.slice (some ⟨g, 0, none⟩) 64 c, .slice (some ⟨k, 0, none⟩) 64 d]) (by simp [results, Try.results112, go_sem, *]) rfl ?_
      rw [HE.out]
      refine ⟨rfl, ?_, ?_, ?_⟩
      · exact ((((OG.out.setOther hgk _).alloc _).alloc _).drewN 1)
      · exact ((((OK.out.set_ ha 0).alloc _).alloc _).drewN 1)
      · exact ((((HC.out.setCell (.inl (by simp)) _).alloc _).alloc _).drewN 1)
  · have e : lastOf x ys a = ys := by unfold lastOf; rw [if_neg (by omega)]
    have e2 : (x - 1 == 0) = false := by simp; omega
    have HE := Lib.hid e
    clear e
    go_enter Try.func112, Try.ntmps112
    go_wp2_with fail
    go_region
    all_goals go_wp2_with fail
    all_goals
      refine bodyPost_ret (v := .agg #[.slice (some ⟨g, 0, none⟩) 64 c, .slice (some ⟨k, 0, none⟩) 64 d]) (by simp [results, Try.results112, go_sem, *]) rfl ?_
      rw [HE.out]
      refine ⟨rfl, ?_, ?_, ?_⟩
      · exact (((OG.out.alloc _).alloc _).drewN 1)
      · exact (((OK.out.alloc _).alloc _).drewN 1)
      · exact (((HC.out.alloc _).alloc _).drewN 1)
end Go.Proofs.Ytffieobjcipeoaa
