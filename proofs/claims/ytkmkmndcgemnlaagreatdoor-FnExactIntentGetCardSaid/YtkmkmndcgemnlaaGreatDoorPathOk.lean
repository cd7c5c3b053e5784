/- PathOk of the program and of the reference. Condition: the library's length lies in memory (any value). -/
import Derived.Test.YtkmkmndcgemnlaaGreatDoorNameOk
namespace Go.Proofs.YtkmkmndcgemnlaaGreatDoor
set_option linter.unusedVariables false
set_option linter.unusedSimpArgs false
set_option linter.unnecessarySimpa false
open Go Go.Lib Go.RowKit

set_option maxRecDepth 100000 in
set_option maxHeartbeats 2000000 in
theorem spPathOk_any (s : Str) (w : World) (hs : s.length ≤ 3000000000) : Calls Tryz.prog 80 #[.string (strB s)] w fun e w' => e = .returned (.bool (pathB s)) ∧ Below w.heap.size w w' := by
  by_cases h0 : s = [47]
  · subst h0
    have h1 : ((strB [47]).toList == [47]) = true := by rw [strB_list]; rfl
    have h2 : (strB [47]).toList = [47] := strB_list _
    have HF := Lib.hid path_one
    go_enter Tryz.func80, Tryz.ntmps80
    go_wp2_with fail
    go_ret
    exact ⟨ret_bool HF.out.symm, Below.refl _ _⟩
  have h1 : ((strB s).toList == [47]) = false := by rw [strB_list]; simpa using h0
  have h2 : ¬ (strB s).toList = [47] := by rw [strB_list]; exact h0
  by_cases he : s = []
  · subst he
    have h3 : ((strB []).toList == []) = true := by rw [strB_list]; rfl
    have h4 : (strB []).toList.isEmpty = true := by rw [strB_list]; rfl
    have h5 : (strB []).toList = [] := strB_list _
    have HF := Lib.hid path_nil
    go_enter Tryz.func80, Tryz.ntmps80
    go_wp2_with fail
    go_ret
    exact ⟨ret_bool HF.out.symm, Below.refl _ _⟩
  cases s with
  | nil => exact absurd rfl he
  | cons ch r =>
  have h3 : ((strB (ch :: r)).toList == []) = false := by rw [strB_list]; rfl
  have h4 : (strB (ch :: r)).toList.isEmpty = false := by rw [strB_list]; rfl
  have h5 : ¬ (strB (ch :: r)).toList = [] := by rw [strB_list]; simp
  have hsz : (strB (ch :: r)).size = r.length + 1 := by rw [strB_size]; rfl
  have hlk : 0 < (strB (ch :: r)).size := by omega
  obtain ⟨ch', x, hc, hx, hx9, hg⟩ := str_get2 (s := ch :: r) (j := 0) hlk
  obtain rfl : ch = ch' := by simpa using hc
  clear hc he
  by_cases h47 : x = 47
  rotate_left
  · have hf : pathB (ch :: r) = false := path_not (fun e => h47 (by rw [hx, e]; rfl))
    have HF := Lib.hid hf
    have g1 : ((x : Int) != 47) = true := by simp; omega
    have g2 : ¬ (x : Int) = 47 := by omega
    have g3 : ((x : Int) == 47) = false := by simp; omega
    clear hf hx h47 h0
    go_enter Tryz.func80, Tryz.ntmps80
    go_wp2_with fail
    go_ret
    exact ⟨ret_bool HF.out.symm, Below.refl _ _⟩
  have hch : ch = 47 := UInt8.toNat_inj.1 (by rw [← hx, h47]; rfl)
  subst hch h47
  have hr : r ≠ [] := fun e => h0 (by rw [e])
  have HRES : Hid (pathB (47 :: r) = (decide ((splitP r).length ≤ 4) && (splitP r).all namB)) := Lib.hid (path_cons hr)
  generalize pathB (47 :: r) = res at *
  have hrl : r.length ≤ 3000000000 := by simp at hs; omega
  have HPL : Hid (∀ f ∈ splitP r, f.length ≤ 1099511627776) := Lib.hid (fun f hf => by have := pieceP_le r f hf; omega)
  have HNM := Lib.hid (l14Names_any r w hr hrl)
  clear hx h0 hr hs
  go_enter Tryz.func80, Tryz.ntmps80
  go_wp2_with fail
  refine HNM.out.mono ?_
  rintro e w1 ⟨A, n, c, rfl, hn, hR, hb⟩
  obtain ⟨fs, hfs⟩ : ∃ fs, fs = splitP r := ⟨_, rfl⟩
  rw [← hfs] at hn hR HRES HPL
  have HN := Lib.hid hn
  have HR := Lib.hid hR
  have hnm : n ≤ 3000000001 := by
    have h6 := joinP_count r
    rw [← hfs, ← hn] at h6
    omega
  clear hn hR hfs HNM
  go_wp2_with fail
  go_loop [4] (fun i => ∃ j : Nat, j ≤ n ∧ i = .int .i64 (j : Int) ∧ Hid (∀ k f, k < j → fs[k]? = some f → namB f = true)) (fun i => n - (RowKit.intOf i).toNat)
  case atStart => exact ⟨0, Nat.zero_le _, rfl, Lib.hid (fun k c h => absurd h (by omega))⟩
  case round =>
    obtain ⟨j, hj, rfl, HP⟩ := hrel
    by_cases hlt : j < n
    · obtain ⟨f, hf⟩ : ∃ f, fs[j]? = some f := ⟨fs[j]'(by rw [← HN.out]; exact hlt), List.getElem?_eq_getElem _⟩
      obtain ⟨b, off, rfl, hbl, hc⟩ := HR.out.at_ hlt
      have hcx : w1.cell? ⟨b, off + j, none⟩ = some (.string (strB f)) := by rw [hc j hlt, List.getElem?_map, hf]; rfl
      have hfl := HPL.out f (List.mem_of_getElem? hf)
      have HX := Lib.hid hf
      have k1 : (j : Int) < (n : Int) := by omega
      clear hf hc
      cases e1 : namB f
      · have HF := Lib.hid (show res = false by rw [HRES.out, all_no' HX.out e1]; simp)
        go_wp2_with fail
        refine (spNameOk_any f w1 hfl).mono ?_
        rw [e1]
        rintro e w2 ⟨rfl, rfl⟩
        clear e1
        go_wp2_with fail
        go_ret
        exact ⟨ret_bool HF.out.symm, hb⟩
      · have HF := Lib.hid (upto_step' HP.out HX.out e1)
        go_wp2_with fail
        refine (spNameOk_any f w1 hfl).mono ?_
        rw [e1]
        rintro e w2 ⟨rfl, rfl⟩
        clear e1
        go_wp2_with fail
        go_round
        case rel => exact ⟨j + 1, by omega, by go_num, HF⟩
        case measure => simp [RowKit.intOf]; omega
    · obtain rfl : j = n := by omega
      have k1 : ¬ (j : Int) < (j : Int) := by omega
      have HF := Lib.hid (show res = decide (j ≤ 4) by rw [HRES.out, all_upto' HN.out.symm HP.out, Bool.and_true, HN.out])
      clear HP
      by_cases h4 : j ≤ 4
      · have k2 : (j : Int) ≤ 4 := by omega
        have HG := Lib.hid (decide_eq_true h4)
        go_wp2_with fail
        go_ret
        exact ⟨ret_bool (by rw [HF.out, HG.out]), hb⟩
      · have k2 : ¬ (j : Int) ≤ 4 := by omega
        have HG := Lib.hid (decide_eq_false h4)
        go_wp2_with fail
        go_ret
        exact ⟨ret_bool (by rw [HF.out, HG.out]), hb⟩
theorem hasP_yes (r : Str) : Lib.hasPrefix (strB (47 :: r)).data.toList (⟨#[47]⟩ : ByteArray).data.toList = true := by
  show Lib.hasPrefix (47 :: r) [47] = true
  simp [Lib.hasPrefix, List.isPrefixOf]
theorem hasP_no {s : Str} (h : s.head? ≠ some 47) : Lib.hasPrefix (strB s).data.toList (⟨#[47]⟩ : ByteArray).data.toList = false := by
  have e : (strB s).data.toList = s := by simp [strB]
  rw [e]
  show Lib.hasPrefix s [47] = false
  cases s with
  | nil => rfl
  | cons c r =>
    have hc : ¬ c = 47 := fun e => h (by rw [e]; rfl)
    have hc2 : ¬ (47 : UInt8) = c := fun e => hc e.symm
    simp [Lib.hasPrefix, List.isPrefixOf, hc, hc2]
set_option maxRecDepth 100000 in
theorem liteCut_yes (r : Str) (w : World) (hr : r.length ≤ 3000000000) : Calls Tryz.prog 133 #[.string (strB (47 :: r)), .string ⟨#[47]⟩] w fun e w' => e = .returned (.tuple #[.string (strB r), .bool true]) ∧ w = w' := by
  have hsz : (strB (47 :: r)).size = r.length + 1 := by rw [strB_size]; rfl
  have HX : Hid ((strB (47 :: r)).extract 1 (r.length + 1) = strB r) := Lib.hid (by have := ext_tail (47 :: r) 1; rw [hsz] at this; exact this)
  have C : Calls Tryz.prog 153 #[.string (strB (47 :: r)), .string ⟨#[47]⟩] w fun e w' => e = .returned (.bool true) ∧ w = w' := by
    have := Tryz.stringslite_HasPrefix (strB (47 :: r)) ⟨#[47]⟩ w
    rw [hasP_yes] at this
    exact this.mono fun e w' ⟨a, b⟩ => ⟨a, b.symm⟩
  have HC := Lib.hid C
  clear C
  go_enter Tryz.func133, Tryz.ntmps133
  go_wp2_with fail
  refine HC.out.mono ?_
  rintro e w' ⟨rfl, rfl⟩
  have HX2 := HX.out
  have hle : (1 : Int) ≤ ((r.length + 1 : Nat) : Int) := by omega
  go_wp2_with fail
  go_ret2
  exact ⟨rfl, rfl⟩
set_option maxRecDepth 100000 in
theorem liteCut_no (s : Str) (w : World) (h : s.head? ≠ some 47) : Calls Tryz.prog 133 #[.string (strB s), .string ⟨#[47]⟩] w fun e w' => e = .returned (.tuple #[.string (strB s), .bool false]) ∧ w = w' := by
  have C : Calls Tryz.prog 153 #[.string (strB s), .string ⟨#[47]⟩] w fun e w' => e = .returned (.bool false) ∧ w = w' := by
    have := Tryz.stringslite_HasPrefix (strB s) ⟨#[47]⟩ w
    rw [hasP_no h] at this
    exact this.mono fun e w' ⟨a, b⟩ => ⟨a, b.symm⟩
  have HC := Lib.hid C
  clear C h
  go_enter Tryz.func133, Tryz.ntmps133
  go_wp2_with fail
  refine HC.out.mono ?_
  rintro e w' ⟨rfl, rfl⟩
  go_wp2_with fail
  go_ret2
  exact ⟨rfl, rfl⟩
set_option maxRecDepth 100000 in
theorem cutP_yes (r : Str) (w : World) (hr : r.length ≤ 3000000000) : Calls Tryz.prog 108 #[.string (strB (47 :: r)), .string ⟨#[47]⟩] w fun e w' => e = .returned (.tuple #[.string (strB r), .bool true]) ∧ w = w' := by
  have HC := Lib.hid (liteCut_yes r w hr)
  go_enter Tryz.func108, Tryz.ntmps108
  go_wp2_with fail
  refine HC.out.mono ?_
  rintro e w' ⟨rfl, rfl⟩
  go_wp2_with fail
  go_ret2
  exact ⟨rfl, rfl⟩
set_option maxRecDepth 100000 in
theorem cutP_no (s : Str) (w : World) (h : s.head? ≠ some 47) : Calls Tryz.prog 108 #[.string (strB s), .string ⟨#[47]⟩] w fun e w' => e = .returned (.tuple #[.string (strB s), .bool false]) ∧ w = w' := by
  have HC := Lib.hid (liteCut_no s w h)
  clear h
  go_enter Tryz.func108, Tryz.ntmps108
  go_wp2_with fail
  refine HC.out.mono ?_
  rintro e w' ⟨rfl, rfl⟩
  go_wp2_with fail
  go_ret2
  exact ⟨rfl, rfl⟩
set_option maxRecDepth 100000 in
theorem pathOf1_any (s : Str) (w : World) : Calls Tryz.prog 136 #[.string (strB s)] w fun e w' => e = .returned (.bool (!namB s)) ∧ Below w.heap.size w w' := by
  go_enter Tryz.func136, Tryz.ntmps136
  go_wp2_with fail
  refine (nameOk_any s w).mono ?_
  rintro e w1 ⟨rfl, hb⟩
  go_wp2_with fail
  go_ret
  exact ⟨rfl, hb⟩
def IdxN (b : Bool) (w : World) (e : Ending) (w' : World) : Prop := ∃ r : Int, e = .returned (.int .i64 r) ∧ decide (0 ≤ r) = b ∧ Below w.heap.size w w'
set_option maxRecDepth 100000 in
set_option maxHeartbeats 2000000 in
theorem indexName_any (A : Option Addr) (n c : Nat) (fs : List Str) (w : World) (h : RowAt w A n (fs.map strV)) (hn : n ≤ 9223372036854775807) :
    Calls Tryz.prog 157 #[.slice A n c, .func (.func 136) #[] #[]] w (IdxN (!fs.all namB) w) := by
  have HL : Hid (fs.length = n) := Lib.hid (by have := h.1; simpa using this)
  have H := Lib.hid h; clear h
  go_enter Tryz.func157, Tryz.ntmps157
  go_wp2_with fail
  go_loopw [8] (fun s wr => ∃ k : Nat, k ≤ n ∧ s = .int .i64 k ∧ Hid (∀ j x, j < k → fs[j]? = some x → namB x = true) ∧ Hid (Below w.heap.size w wr)) (fun s _ => n - (RowKit.intOf s).toNat)
  case atStart => exact ⟨0, Nat.zero_le _, rfl, Lib.hid (fun j x hj => absurd hj (by omega)), Lib.hid (Below.refl _ _)⟩
  case round =>
    obtain ⟨k, hk, rfl, HP, HB⟩ := hrel
    by_cases hlt : k < n
    · obtain ⟨x, hx⟩ : ∃ x, fs[k]? = some x := ⟨fs[k]'(by rw [HL.out]; exact hlt), List.getElem?_eq_getElem _⟩
      obtain ⟨b, off, rfl, bl, hc⟩ := (H.out.below HB.out).at_ hlt
      have q0 : wr.cell? ⟨b, off + k, none⟩ = some (.string (strB x)) := by rw [hc k hlt, List.getElem?_map, hx]; rfl
      clear hc
      have HX := Lib.hid hx; clear hx
      have R := pathOf1_any x wr
      have k0 : (0 : Int) ≤ (k : Int) := by omega
      have k1 : (k : Int) < (n : Int) := by omega
      cases e1 : namB x
      · have HF := Lib.hid (show (!fs.all namB) = true by rw [all_no' HX.out e1]; rfl)
        rw [e1] at R
        have HR := Lib.hid R; clear R e1
        go_wp2_with fail
        refine HR.out.mono ?_
        rintro e w2 ⟨rfl, hb2⟩
        have HB2 : Hid (Below w.heap.size w w2) := Lib.hid (HB.out.trans (hb2.mono HB.out.size))
        clear hb2
        go_wp2_with fail
        go_ret
        exact ⟨k, rfl, by rw [HF.out]; simp, HB2.out⟩
      · have HF := Lib.hid (upto_step' HP.out HX.out e1)
        rw [e1] at R
        have HR := Lib.hid R; clear R e1
        go_wp2_with fail
        refine HR.out.mono ?_
        rintro e w2 ⟨rfl, hb2⟩
        have HB2 : Hid (Below w.heap.size w w2) := Lib.hid (HB.out.trans (hb2.mono HB.out.size))
        clear hb2
        go_wp2_with fail
        go_roundw
        case rel => exact ⟨k + 1, by omega, by go_num, HF, HB2⟩
        case measure => simp [RowKit.intOf]; omega
    · obtain rfl : k = n := by omega
      have HF := Lib.hid (show (!fs.all namB) = false by rw [all_upto' HL.out HP.out]; rfl)
      go_wp2_with fail
      go_ret
      exact ⟨-1, rfl, by rw [HF.out]; rfl, HB.out⟩
set_option maxRecDepth 100000 in
set_option maxHeartbeats 1000000 in
theorem containsName_any (A : Option Addr) (n c : Nat) (fs : List Str) (w : World) (h : RowAt w A n (fs.map strV)) (hn : n ≤ 9223372036854775807) :
    Calls Tryz.prog 135 #[.slice A n c, .func (.func 136) #[] #[]] w fun e w' => e = .returned (.bool (!fs.all namB)) ∧ Below w.heap.size w w' := by
  have R := Lib.hid (indexName_any A n c fs w h hn)
  clear h
  go_enter Tryz.func135, Tryz.ntmps135
  go_wp2_with fail
  refine R.out.mono ?_
  rintro e w1 ⟨r, rfl, hr, hb⟩
  have HR := Lib.hid hr; clear hr
  go_wp2_with fail
  go_ret
  exact ⟨ret_bool HR.out, hb⟩
theorem joinP_dot (fs : List Str) : (⟨(Lib.join ((fs.map strB).map (·.data.toList)) (⟨#[47]⟩ : ByteArray).data.toList).toArray⟩ : ByteArray) = strB (join fs [47]) := by
  have : (fs.map strB).map (·.data.toList) = fs := by
    rw [List.map_map]
    have : ((fun x : ByteArray => x.data.toList) ∘ strB) = id := by funext x; simp [strB]
    rw [this, List.map_id]
  rw [this]
  rfl
set_option maxRecDepth 100000 in
set_option maxHeartbeats 1000000 in
theorem pathText_any (g c : Nat) (fs : List Str) (w : World) (n : Nat) (hn : n = fs.length) (hcs : ∀ (j : Nat) x, fs[j]? = some x → w.cell? ⟨g, j, none⟩ = some (.string (strB x))) (hg : g < w.heap.size) (hc : n ≤ c) (hl : (join fs [47]).length ≤ 1000000) (hn4 : n ≤ 4) :
    Calls Tryz.prog 137 #[.slice (some ⟨g, 0, none⟩) n c] w fun e w' => e = .returned (.string (strB (47 :: join fs [47]))) ∧ Below w.heap.size w w' := by
  subst hn
  have hmap : (fs.map strB).map (·.data.toList) = fs := by
    rw [List.map_map]
    have : ((fun x : ByteArray => x.data.toList) ∘ strB) = id := by funext x; simp [strB]
    rw [this, List.map_id]
  have HJ := Tryz.strings_Join g 0 c (fs.map strB) ⟨#[47]⟩ w (fun j x hx => by
    rw [List.getElem?_map] at hx
    cases hf : fs[j]? with
    | none => rw [hf] at hx; cases hx
    | some f =>
      rw [hf] at hx
      obtain rfl := Option.some.inj hx
      rw [Nat.zero_add]
      exact hcs j f hf) hg (by simp; omega) (by simpa using hc) (by rw [hmap]; exact Nat.le_trans hl (by omega))
  rw [joinP_dot, List.length_map] at HJ
  obtain ⟨J, hJ⟩ : ∃ J, J = join fs [47] := ⟨_, rfl⟩
  rw [← hJ] at HJ hl ⊢
  have HJ := Lib.hid HJ
  have hjs : (strB J).size ≤ 1000000 := hl
  have HA : Hid ((⟨#[47]⟩ : ByteArray) ++ strB J = strB (47 :: J)) := Lib.hid (strB_app [47] J)
  clear hcs hmap hJ hl
  go_enter Tryz.func137, Tryz.ntmps137
  go_wp2_with fail
  refine HJ.out.mono ?_
  rintro e w1 ⟨rfl, hb⟩
  go_wp2_with fail
  go_ret
  exact ⟨ret_str HA.out, hb⟩
end Go.Proofs.YtkmkmndcgemnlaaGreatDoor
