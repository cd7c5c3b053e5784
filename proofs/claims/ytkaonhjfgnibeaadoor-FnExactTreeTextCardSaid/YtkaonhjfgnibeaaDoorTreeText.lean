/- TreeText both; slices.Contains at texts. Condition: the table of powers of ten lies as its initialiser lays it. -/
import Derived.Test.YtkaonhjfgnibeaaDoorRootPut
namespace Go.Proofs.YtkaonhjfgnibeaaDoor
set_option linter.unusedVariables false
set_option linter.unusedSimpArgs false
set_option linter.unnecessarySimpa false
open Go Go.Lib Go.RowKit

theorem strB_toList (l : Str) : (strB l).toList = l := strB_list l
theorem str_eq_yes (x : Str) : ((strB x).toList == (strB x).toList) = true := by simp
theorem str_eq_no {x y : Str} (h : x ≠ y) : ((strB x).toList == (strB y).toList) = false := by rw [strB_list, strB_list]; simpa using h
def IdxR (fs : List Str) (x : Str) (w : World) (e : Ending) (w' : World) : Prop := ∃ k : Int, e = .returned (.int .i64 k) ∧ (fs.contains x = true → 0 ≤ k) ∧ (fs.contains x = false → k = -1) ∧ w = w'
set_option maxRecDepth 100000 in
set_option maxHeartbeats 2000000 in
theorem index_any (A : Option Addr) (c n : Nat) (fs : List Str) (x : Str) (w : World) (h : RowAt w A n (fs.map strV)) (hn : fs.length = n) (hl : n ≤ 1000000) :
    Calls Tryd.prog 33 #[.slice A n c, .string (strB x)] w (IdxR fs x w) := by
  go_enter Tryd.func33, Tryd.ntmps33
  go_wp2_with fail
  go_loopw [8] (fun i wr => ∃ j : Nat, i = .int .i64 (j : Int) ∧ j ≤ n ∧ Hid (∀ k, k < j → fs[k]? ≠ some x) ∧ SameW wr w) (fun i _ => n - (RowKit.intOf i).toNat)
  case atStart => exact ⟨0, rfl, Nat.zero_le _, Lib.hid (fun k hk => absurd hk (by omega)), SameW.refl _⟩
  case round =>
    obtain ⟨j, rfl, hj, HP, hw⟩ := hrel
    have hw := hw.out
    subst hw
    by_cases hlt : j < n
    · have hd : ((j : Nat) : Int) < (n : Int) := by omega
      obtain ⟨f, hf⟩ : ∃ f, fs[j]? = some f := ⟨_, List.getElem?_eq_getElem (by omega)⟩
      obtain ⟨b, off, rfl, hbl, hc⟩ := h.at_ (k := j) hlt
      have hcj : wr.cell? ⟨b, off + j, none⟩ = some (.string (strB f)) := (hc j hlt).trans (by rw [List.getElem?_map, hf]; rfl)
      clear hc
      by_cases hx : x = f
      · have HC : Hid (fs.contains x = true) := Lib.hid (by rw [List.contains_iff_mem, hx]; exact List.mem_of_getElem? hf)
        have he := str_eq_yes x
        subst hx
        go_wp2_with fail
        go_ret
        exact ⟨j, rfl, fun _ => (by omega), fun h => (by rw [HC.out] at h; cases h), rfl⟩
      · have he := str_eq_no hx
        have HP2 : Hid (∀ k, k < j + 1 → fs[k]? ≠ some x) := Lib.hid (fun k hk e => by
          rcases Nat.lt_or_ge k j with h1 | h1
          · exact HP.out k h1 e
          · obtain rfl : k = j := by omega
            rw [hf] at e; exact hx (Option.some.inj e).symm)
        go_wp2_with fail
        go_roundw
        case rel => exact ⟨j + 1, by simp, by omega, HP2, SameW.refl _⟩
        case measure => simp [RowKit.intOf]; omega
    · have hd : ¬ ((j : Nat) : Int) < (n : Int) := by omega
      have HC : Hid (fs.contains x = false) := Lib.hid (by
        cases h2 : fs.contains x with
        | false => rfl
        | true =>
          rw [List.contains_iff_mem] at h2
          obtain ⟨k, hk, e⟩ := List.mem_iff_getElem.1 h2
          exact absurd (by rw [List.getElem?_eq_getElem hk, e]) (HP.out k (by omega)))
      go_wp2_with fail
      go_ret
      exact ⟨-1, rfl, fun h => (by rw [HC.out] at h; cases h), fun _ => rfl, rfl⟩
set_option maxRecDepth 100000 in
set_option maxHeartbeats 2000000 in
theorem contains_any (A : Option Addr) (c n : Nat) (fs : List Str) (x : Str) (w : World) (h : RowAt w A n (fs.map strV)) (hn : fs.length = n) (hl : n ≤ 1000000) :
    Calls Tryd.prog 21 #[.slice A n c, .string (strB x)] w fun e w' => e = .returned (.bool (fs.contains x)) ∧ w = w' := by
  go_enter Tryd.func21, Tryd.ntmps21
  go_wp2_with fail
  refine (index_any A c n fs x w h hn hl).mono ?_
  rintro e w1 ⟨k, rfl, h1, h2, rfl⟩
  obtain ⟨b, hb⟩ : ∃ b, b = fs.contains x := ⟨_, rfl⟩
  rw [← hb] at h1 h2
  have HB := Lib.hid hb
  clear hb
  cases b
  · obtain rfl := h2 rfl
    clear h1 h2
    go_wp2_with fail
    go_ret
    exact ⟨ret_bool HB.out, rfl⟩
  · have hk := h1 rfl
    clear h1 h2
    go_wp2_with fail
    go_ret
    exact ⟨ret_bool HB.out, rfl⟩
theorem treeText_yes {a b s m l d n : Int} (h : (treeS a b s m l d n).contains [] = true) : treeTextS a b s m l d n = [] := by unfold treeTextS; rw [h]; rfl
theorem treeText_no {a b s m l d n : Int} (h : (treeS a b s m l d n).contains [] = false) : treeTextS a b s m l d n = (fieldsF (treeS a b s m l d n)).1 := by unfold treeTextS; rw [h]; rfl
set_option maxRecDepth 100000 in
set_option maxHeartbeats 2000000 in
theorem treeText_any (a b s m l d n : Int) (w : World) (ht : Tab w) : Calls Tryd.prog 10 #[treeV a b s m l d n] w (TextR (treeTextS a b s m l d n) w) := by
  show Calls Tryd.prog 10 #[.agg #[.int .i64 a, .int .i64 b, .int .i64 s, .int .i64 m, .int .i64 l, .int .i64 d, .int .i64 n]] w _
  go_enter Tryd.func10, Tryd.ntmps10
  go_wp2_with fail
  refine (treeFields_any a b s m l d n _ (ht.below bel1)).mono ?_
  rintro e w1 ⟨A, c, rfl, hI, hb1⟩
  have HB1 := bel1.trans (hb1.mono (by simp))
  have HT := Lib.hid (ht.below HB1)
  obtain ⟨fs, hfs⟩ : ∃ fs, fs = treeS a b s m l d n := ⟨_, rfl⟩
  have hb : ∀ f ∈ fs, f.length ≤ 1099511627776 := by rw [hfs]; intro f hf; have := treeS_le _ _ _ _ _ _ _ f hf; omega
  have hl : fs.length = 3 := by rw [hfs]; rfl
  rw [← hfs] at hI ⊢
  have HFS := Lib.hid hfs
  have HI := Lib.hid hI
  have HM := Lib.hid hb
  clear hfs hb1 ht hI hb
  have hr := HI.out.row
  rw [hl] at hr ⊢
  have HN := Lib.hid hl.symm
  have HR := Lib.hid hr
  clear hl hr
  go_wp2_with fail
  refine (contains_any A c 3 fs [] w1 HR.out HN.out.symm (by omega)).mono ?_
  obtain ⟨x, hx⟩ : ∃ x, x = fs.contains [] := ⟨_, rfl⟩
  rw [← hx]
  rintro e w2 ⟨rfl, rfl⟩
  have HX := Lib.hid hx
  clear hx
  cases x
  · go_wp2_with fail
    have P := fieldsPut_any A c fs w1 HT.out HI.out.row HM.out (by rw [← HN.out]; omega)
    rw [← HN.out] at P
    refine P.mono ?_
    rintro e w2 ⟨rfl, hb2⟩
    obtain ⟨Y, hY⟩ : ∃ Y, Y = (fieldsF fs).1 := ⟨_, rfl⟩
    obtain ⟨yo, hyo⟩ : ∃ Y, Y = (fieldsF fs).2 := ⟨_, rfl⟩
    rw [← hY, ← hyo]
    have HY := Lib.hid hY
    have HB2 := HB1.trans (hb2.mono HB1.size)
    clear hY hyo hb2
    go_wp2_with fail
    go_ret
    exact ⟨ret_str (by rw [HY.out, HFS.out, treeText_no (by rw [← HFS.out]; exact HX.out.symm)]), HB2⟩
  · go_wp2_with fail
    go_ret
    exact ⟨ret_str (by rw [treeText_yes (by rw [← HFS.out]; exact HX.out.symm)]; rfl), HB1⟩
set_option maxRecDepth 100000 in
set_option maxHeartbeats 2000000 in
theorem spTreeText_any (a b s m l d n : Int) (w : World) : Calls Tryd.prog 8 #[treeV a b s m l d n] w (TextR (treeTextS a b s m l d n) w) := by
  show Calls Tryd.prog 8 #[.agg #[.int .i64 a, .int .i64 b, .int .i64 s, .int .i64 m, .int .i64 l, .int .i64 d, .int .i64 n]] w _
  go_enter Tryd.func8, Tryd.ntmps8
  go_wp2_with fail
  refine (l21Tree_any a b s m l d n _).mono ?_
  rintro e w1 ⟨A, c, rfl, hI, hb1⟩
  have HB1 := bel1.trans (hb1.mono (by simp))
  obtain ⟨x0, hx0⟩ : ∃ x, x = ptrS a b s m l := ⟨_, rfl⟩
  obtain ⟨x1, hx1⟩ : ∃ x, x = numS d := ⟨_, rfl⟩
  obtain ⟨x2, hx2⟩ : ∃ x, x = numS n := ⟨_, rfl⟩
  have hfs : treeS a b s m l d n = [x0, x1, x2] := by rw [hx0, hx1, hx2]; rfl
  have HM : Hid (∀ f ∈ [x0, x1, x2], f.length ≤ 1099511627776) := Lib.hid (by rw [← hfs]; intro f hf; have := treeS_le _ _ _ _ _ _ _ f hf; omega)
  rw [hfs] at hI ⊢
  have HFS := Lib.hid hfs
  obtain ⟨g, rfl, hg, hc0⟩ := hI.cell (j := 0) rfl
  obtain ⟨g1, e1, _, hc1⟩ := hI.cell (j := 1) rfl
  obtain ⟨g2, e2, _, hc2⟩ := hI.cell (j := 2) rfl
  injection e1 with e1; injection e1 with e1
  injection e2 with e2; injection e2 with e2
  subst e1 e2
  have HI := Lib.hid hI
  clear hfs hb1 hI hx0 hx1 hx2
  have z (x : Str) : ((strB x).toList == []) = decide (x = []) := by rw [strB_list]; cases x <;> simp
  have hct : [x0, x1, x2].contains [] = (decide (x0 = []) || (decide (x1 = []) || decide (x2 = []))) := by cases x0 <;> cases x1 <;> cases x2 <;> rfl
  have HC : Hid ((treeS a b s m l d n).contains [] = (decide (x0 = []) || (decide (x1 = []) || decide (x2 = [])))) := Lib.hid (by rw [HFS.out]; exact hct)
  have P := spFieldsPut_any (some ⟨g, 0, none⟩) c [x0, x1, x2] w1 HI.out.row HM.out (by simp)
  have P := Lib.hid P
  have z0 := z x0
  have z1 := z x1
  have z2 := z x2
  clear z hct
  obtain ⟨b0, hb0⟩ : ∃ x, x = decide (x0 = []) := ⟨_, rfl⟩
  obtain ⟨b1, hb1⟩ : ∃ x, x = decide (x1 = []) := ⟨_, rfl⟩
  obtain ⟨b2, hb2⟩ : ∃ x, x = decide (x2 = []) := ⟨_, rfl⟩
  rw [← hb0] at z0
  rw [← hb1] at z1
  rw [← hb2] at z2
  rw [← hb0, ← hb1, ← hb2] at HC
  clear hb0 hb1 hb2
  have fin : ∀ (e : Ending) (w2 : World), b0 = false → b1 = false → b2 = false → PutF [x0, x1, x2] w1 e w2 → ∃ Y yo, e = .returned (.tuple #[.string (strB Y), .bool yo]) ∧ Y = treeTextS a b s m l d n ∧ Below w.heap.size w w2 := by
    intro e w2 h0 h1 h2 h
    obtain ⟨rfl, hb⟩ := h
    refine ⟨_, _, rfl, ?_, HB1.trans (hb.mono HB1.size)⟩
    rw [treeText_no (by rw [HC.out, h0, h1, h2]; rfl), HFS.out]
  have FIN := Lib.hid fin
  clear fin
  cases b0
  · cases b1
    · cases b2
      · go_wp2_with fail
        refine P.out.mono ?_
        intro e w2 h
        obtain ⟨Y, yo, rfl, hY, hB⟩ := FIN.out e w2 (by first | rfl | trivial) (by first | rfl | trivial) (by first | rfl | trivial) h
        have HY := Lib.hid hY
        clear h hY
        go_wp2_with fail
        go_ret
        exact ⟨ret_str (by rw [HY.out]), hB⟩
      · go_wp2_with fail
        go_ret
        exact ⟨ret_str (by rw [treeText_yes HC.out]; rfl), HB1⟩
    · go_wp2_with fail
      go_ret
      exact ⟨ret_str (by rw [treeText_yes HC.out]; rfl), HB1⟩
  · go_wp2_with fail
    go_ret
    exact ⟨ret_str (by rw [treeText_yes HC.out]; rfl), HB1⟩
end Go.Proofs.YtkaonhjfgnibeaaDoor
