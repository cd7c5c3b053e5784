/- PathOk of the program; OpOk, IntentOk of the program and of the reference. Condition: the library's length lies in memory (any value). -/
import Derived.Test.YtkmkmndcgemnlaaGreatDoorPathOk
namespace Go.Proofs.YtkmkmndcgemnlaaGreatDoor
set_option linter.unusedVariables false
set_option linter.unusedSimpArgs false
set_option linter.unnecessarySimpa false
open Go Go.Lib Go.RowKit

def pathOfB (fs : List Str) : Bool := decide (fs.length ≤ 4) && fs.all namB
def pathOfT (fs : List Str) : Str := if pathOfB fs = true then 47 :: join fs [47] else []
set_option maxRecDepth 100000 in
set_option maxHeartbeats 2000000 in
theorem pathOf_any (B : Nat) (A : Option Addr) (c n : Nat) (fs : List Str) (w : World) (hI : StrsIn B w A c fs) (hne : fs ≠ []) (hn : n = fs.length) (hl : n ≤ 1099511627776) :
    Calls Tryz.prog 110 #[.slice A n c] w fun e w' => e = .returned (.tuple #[.string (strB (pathOfT fs)), .bool (pathOfB fs)]) ∧ Below w.heap.size w w' := by
  have HN := Lib.hid hn
  have hR : RowAt w A n (fs.map strV) := by rw [hn]; exact hI.row
  have HR := Lib.hid hR
  have HI := Lib.hid hI
  have HNE := Lib.hid hne
  clear hn hR hI hne
  obtain ⟨T, hT⟩ : ∃ T, T = pathOfT fs := ⟨_, rfl⟩
  have HT := Lib.hid hT
  rw [← hT]
  clear hT
  have HRES : Hid (pathOfB fs = (decide (n ≤ 4) && fs.all namB)) := Lib.hid (by unfold pathOfB; rw [HN.out])
  obtain ⟨res, hres⟩ : ∃ res, res = pathOfB fs := ⟨_, rfl⟩
  have HRS := Lib.hid hres
  rw [← hres] at HRES ⊢
  clear hres
  by_cases h4 : n ≤ 4
  rotate_left
  · have k1 : (4 : Int) < (n : Int) := by omega
    have HF := Lib.hid (show res = false by rw [HRES.out, decide_eq_false h4]; rfl)
    have HTT := Lib.hid (show T = [] by rw [HT.out]; unfold pathOfT; rw [← HRS.out, HF.out]; rfl)
    clear h4
    go_enter Tryz.func110, Tryz.ntmps110
    go_wp2_with fail
    go_ret2
    exact ⟨by rw [HF.out, HTT.out]; rfl, Below.refl _ _⟩
  have k1 : ¬ (4 : Int) < (n : Int) := by omega
  have C := containsName_any A n c fs w HR.out (by omega)
  cases hall : fs.all namB
  · have HF := Lib.hid (show res = false by rw [HRES.out, hall, Bool.and_false])
    have HTT := Lib.hid (show T = [] by rw [HT.out]; unfold pathOfT; rw [← HRS.out, HF.out]; rfl)
    rw [hall] at C
    have HC := Lib.hid C
    clear C hall
    go_enter Tryz.func110, Tryz.ntmps110
    go_wp2_with fail
    refine HC.out.mono ?_
    rintro e w1 ⟨rfl, hb⟩
    go_wp2_with fail
    go_ret2
    exact ⟨by rw [HF.out, HTT.out]; rfl, hb⟩
  · have HF := Lib.hid (show res = true by rw [HRES.out, hall, decide_eq_true h4]; rfl)
    have HTT := Lib.hid (show T = 47 :: join fs [47] by rw [HT.out]; unfold pathOfT; rw [← HRS.out, HF.out]; rfl)
    have hj : (join fs [47]).length ≤ 1000000 := by
      cases hf : fs with
      | nil => exact absurd hf HNE.out
      | cons x xs =>
        have h1 := joinP_len x xs (fun y hy => (namB_iff.1 (List.all_eq_true.1 hall y (hf ▸ hy))).1.2)
        have h2 := HN.out
        rw [hf] at h2
        simp only [List.length_cons] at h2
        omega
    rw [hall] at C
    have HC := Lib.hid C
    obtain ⟨g, hA⟩ : ∃ g, A = some ⟨g, 0, none⟩ := by
      obtain ⟨f, hf⟩ : ∃ f, fs[0]? = some f := by
        cases hf : fs with
        | nil => exact absurd hf HNE.out
        | cons x xs => exact ⟨x, rfl⟩
      obtain ⟨g, hA, _⟩ := HI.out.cell hf
      exact ⟨g, hA⟩
    subst hA
    have P : ∀ w1, Below w.heap.size w w1 → Calls Tryz.prog 137 #[.slice (some ⟨g, 0, none⟩) n c] w1 fun e w' => e = .returned (.string (strB (47 :: join fs [47]))) ∧ Below w1.heap.size w1 w' := fun w1 hb => by
      have hI1 := HI.out.below hb
      refine pathText_any g c fs w1 n HN.out (fun j x hx => ?_) ?_ ?_ hj h4
      · obtain ⟨g', e, _, hc⟩ := hI1.cell hx
        injection e with e; injection e with e; subst e; exact hc
      · cases hf : fs with
        | nil => exact absurd hf HNE.out
        | cons x xs =>
          obtain ⟨g', e, hg, _⟩ := hI1.cell (j := 0) (f := x) (by rw [hf]; rfl)
          injection e with e; injection e with e; subst e; exact hg
      · rw [HN.out]; exact hI1.le
    obtain ⟨J, hJ⟩ : ∃ J, J = strB (47 :: join fs [47]) := ⟨_, rfl⟩
    rw [← hJ] at P
    have HP := Lib.hid P
    have HJ := Lib.hid hJ
    clear C hall hj P hJ
    go_enter Tryz.func110, Tryz.ntmps110
    go_wp2_with fail
    refine HC.out.mono ?_
    rintro e w1 ⟨rfl, hb⟩
    go_wp2_with fail
    refine (HP.out w1 hb).mono ?_
    rintro e w2 ⟨rfl, hb2⟩
    go_wp2_with fail
    go_ret2
    exact ⟨by rw [HF.out, HTT.out, HJ.out]; rfl, hb.trans (hb2.mono hb.size)⟩
def NamesAny (b : Bool) (w : World) (e : Ending) (w' : World) : Prop := ∃ A n c, e = .returned (.tuple #[.slice A n c, .bool b]) ∧ Below w.heap.size w w'
theorem NamesAny.mk {b b' : Bool} {w w' : World} {A : Option Addr} {n c : Nat} (h : b = b') (hb : Below w.heap.size w w') : NamesAny b w (.returned (.tuple #[.slice A n c, .bool b'])) w' := ⟨A, n, c, by rw [h], hb⟩
set_option maxRecDepth 100000 in
set_option maxHeartbeats 2000000 in
theorem pathNames_any (s : Str) (w : World) (hm : MLen w) (hs : s.length ≤ 3000000000) : Calls Tryz.prog 85 #[.string (strB s)] w (NamesAny (pathB s) w) := by
  by_cases h0 : s = [47]
  · subst h0
    have h1 : ((strB [47]).toList == [47]) = true := by rw [strB_list]; rfl
    have h2 : (strB [47]).toList = [47] := strB_list _
    have HF := Lib.hid path_one
    go_enter Tryz.func85, Tryz.ntmps85
    go_wp2_with fail
    go_ret2
    exact NamesAny.mk HF.out (Below.refl _ _)
  have h1 : ((strB s).toList == [47]) = false := by rw [strB_list]; simpa using h0
  have h2 : ¬ (strB s).toList = [47] := by rw [strB_list]; exact h0
  by_cases hh : s.head? = some 47
  rotate_left
  · have HF : Hid (pathB s = false) := Lib.hid (by
      cases s with
      | nil => exact path_nil
      | cons c r => exact path_not (fun e => hh (by rw [e]; rfl)))
    have HC := Lib.hid (cutP_no s w hh)
    clear hh h0
    go_enter Tryz.func85, Tryz.ntmps85
    go_wp2_with fail
    refine HC.out.mono ?_
    rintro e w' ⟨rfl, rfl⟩
    go_wp2_with fail
    go_ret2
    exact NamesAny.mk HF.out (Below.refl _ _)
  obtain ⟨r, rfl⟩ : ∃ r, s = 47 :: r := by
    cases s with
    | nil => cases hh
    | cons c r => simp at hh; exact ⟨r, by rw [hh]⟩
  have hr : r ≠ [] := fun e => h0 (by rw [e])
  have hrl : r.length ≤ 3000000000 := by simp at hs; omega
  have HC := Lib.hid (cutP_yes r w hrl)
  have hsz : (strB (47 :: r)).size = r.length + 1 := by rw [strB_size]; rfl
  by_cases h20 : r.length + 1 ≤ 20
  rotate_left
  · have k1 : (20 : Int) < ((r.length + 1 : Nat) : Int) := by omega
    have k2 : (20 : Int) < (r.length : Int) + 1 := by omega
    have HF : Hid (pathB (47 :: r) = false) := Lib.hid (by
      cases h : pathB (47 :: r) with
      | false => rfl
      | true => have := (path_len h).2; simp at this; omega)
    clear hh h0 hr h20
    go_enter Tryz.func85, Tryz.ntmps85
    go_wp2_with fail
    refine HC.out.mono ?_
    rintro e w' ⟨rfl, rfl⟩
    go_wp2_with fail
    go_ret2
    exact NamesAny.mk HF.out (Below.refl _ _)
  have k1 : ¬ (20 : Int) < ((r.length + 1 : Nat) : Int) := by omega
  have k2 : ¬ (20 : Int) < (r.length : Int) + 1 := by omega
  have HM := Lib.hid hm
  have HRES : Hid (pathB (47 :: r) = pathOfB (splitP r)) := Lib.hid (path_cons hr)
  have HJS := Lib.hid (join_splitP r)
  have HNE := Lib.hid (splitP_ne r)
  have hcnt := joinP_count r
  clear hh h0 hr hm
  go_enter Tryz.func85, Tryz.ntmps85
  go_wp2_with fail
  refine HC.out.mono ?_
  rintro e w' ⟨rfl, rfl⟩
  go_wp2_with fail
  refine (splitSP_any r w HM.out (by omega)).mono ?_
  rintro e w1 ⟨A, c, rfl, hI, hb⟩
  obtain ⟨fs, hfs⟩ : ∃ fs, fs = splitP r := ⟨_, rfl⟩
  rw [← hfs] at HRES HJS HNE hcnt hI
  rw [← hfs]
  obtain ⟨n, hn⟩ : ∃ n, n = fs.length := ⟨_, rfl⟩
  rw [← hn] at hcnt
  rw [← hn]
  have HN := Lib.hid hn
  have HI := Lib.hid hI
  clear hfs hn hI
  go_wp2_with fail
  refine (pathOf_any _ A c n fs w1 HI.out HNE.out HN.out (by omega)).mono ?_
  obtain ⟨T, hT⟩ : ∃ T, T = pathOfT fs := ⟨_, rfl⟩
  obtain ⟨ok, hok⟩ : ∃ ok, ok = pathOfB fs := ⟨_, rfl⟩
  rw [← hT, ← hok]
  rintro e w2 ⟨rfl, hb2⟩
  have HB2 := Lib.hid (hb.trans (hb2.mono hb.size))
  have HOK := Lib.hid (show pathB (47 :: r) = ok by rw [HRES.out, hok])
  clear hb hb2
  cases ok
  · clear hT hok
    go_wp2_with fail
    go_ret2
    exact NamesAny.mk HOK.out HB2.out
  · have e1 : T = 47 :: r := by rw [hT]; unfold pathOfT; rw [← hok, if_pos rfl, HJS.out]
    subst e1
    have q1 : ((strB (47 :: r)).toList == (strB (47 :: r)).toList) = true := by simp
    clear hT hok
    go_wp2_with fail
    go_ret2
    exact NamesAny.mk HOK.out HB2.out
set_option maxRecDepth 100000 in
theorem pathOk_any (s : Str) (w : World) (hm : MLen w) (hs : s.length ≤ 3000000000) : Calls Tryz.prog 55 #[.string (strB s)] w fun e w' => e = .returned (.bool (pathB s)) ∧ Below w.heap.size w w' := by
  have HC := Lib.hid (pathNames_any s w hm hs)
  clear hm
  go_enter Tryz.func55, Tryz.ntmps55
  go_wp2_with fail
  refine HC.out.mono ?_
  rintro e w1 ⟨A, n, c, rfl, hb⟩
  go_wp2_with fail
  go_ret
  exact ⟨rfl, hb⟩
end Go.Proofs.YtkmkmndcgemnlaaGreatDoor
