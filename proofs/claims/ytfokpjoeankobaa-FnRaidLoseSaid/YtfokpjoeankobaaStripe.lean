/- The columns of a block: two halves, and their exclusive or. No condition. -/
import Derived.Test.YtfokpjoeankobaaTypes
import Derived.Test.YtfokpjoeankobaaLib
import Derived.Laws.BytesArg
import Derived.Lib.BufferWrite
import Derived.Lib.Bytes
import Derived.Deep.WholeRow
namespace Go.Proofs.Ytfokpjoeankobaa
set_option linter.unusedSimpArgs false
set_option linter.unnecessarySimpa false
open Go Go.Lib Go.RowKit
set_option linter.unusedVariables false
/-- A text's byte, as a number. -/
def bv (s : ByteArray) (i : Nat) : Int := ((s.data.toList.getD i 0).toNat : Int)
theorem bv_get {s : ByteArray} {j : Nat} (h : j < s.size) : ((s[j]'h).toNat : Int) = bv s j := by
  have h2 : j < s.data.size := h
  unfold bv
  have h3 : j < s.data.toList.length := by rw [Array.length_toList]; exact h2
  rw [List.getD_eq_getElem?_getD, List.getElem?_eq_getElem h3]
  rfl
theorem ext_byte {s : ByteArray} {a b i : Nat} (h : a + i < b) (hb : b ≤ s.size) : bv (s.extract a b) i = bv s (a + i) := by
  unfold bv
  have e : (s.extract a b).data.toList[i]? = s.data.toList[a + i]? := by
    rw [Array.getElem?_toList, Array.getElem?_toList, ByteArray.data_extract, Array.getElem?_extract]
    have : b ≤ s.data.size := hb
    rw [if_pos (by omega)]
  rw [List.getD_eq_getElem?_getD, List.getD_eq_getElem?_getD, e]
/-- The exclusive or's byte i, the first m of them made. -/
def xb (a b : ByteArray) (m i : Nat) : Int := if i < m then bits .xor .u8 (bv a i) (bv b i) else bv a i
def xorL (a b : ByteArray) (n m : Nat) : List Int := (List.range n).map (xb a b m)
theorem xorL_len (a b : ByteArray) (n m : Nat) : (xorL a b n m).length = n := by simp [xorL]
theorem xorL_get {a b : ByteArray} {n m i : Nat} (h : i < n) : (xorL a b n m)[i]? = some (xb a b m i) := by
  unfold xorL
  rw [List.getElem?_map, List.getElem?_range h]
  rfl
theorem xorL_zero (a b : ByteArray) (n : Nat) (h : a.size = n) : ((xorL a b n 0).map (Value.int .u8)) = byteCells a.data.toList := by
  apply List.ext_getElem?
  intro i
  unfold byteCells
  rw [List.getElem?_map, List.getElem?_map]
  rcases Nat.lt_or_ge i n with hi | hi
  · rw [xorL_get hi]
    have h2 : i < a.data.toList.length := by rw [Array.length_toList]; have : a.data.size = n := h; omega
    rw [List.getElem?_eq_getElem h2]
    simp only [xb, Nat.not_lt_zero, if_false, Option.map_some, bv, List.getD_eq_getElem?_getD, List.getElem?_eq_getElem h2, Option.getD_some]
  · rw [List.getElem?_eq_none (by rw [xorL_len]; exact hi), List.getElem?_eq_none (by rw [Array.length_toList]; have : a.data.size = n := h; omega)]
    rfl
theorem xorL_set {a b : ByteArray} {n m : Nat} (h : m < n) : (((xorL a b n m).map (Value.int .u8)).toArray.setIfInBounds m (.int .u8 (bits .xor .u8 (bv a m) (bv b m)))) = ((xorL a b n (m + 1)).map (Value.int .u8)).toArray := by
  apply Array.ext_getElem?
  intro i
  rw [Array.getElem?_setIfInBounds]
  simp only [List.getElem?_toArray, List.getElem?_map, List.size_toArray, List.length_map, xorL_len]
  by_cases hi : m = i
  · subst hi
    rw [if_pos rfl, if_pos h, xorL_get h]
    simp [xb]
  · rw [if_neg hi]
    rcases Nat.lt_or_ge i n with hn | hn
    · rw [xorL_get hn, xorL_get hn]
      simp only [xb, Option.map_some]
      by_cases h2 : i < m
      · rw [if_pos h2, if_pos (by omega)]
      · rw [if_neg h2, if_neg (by omega)]
    · rw [List.getElem?_eq_none (by rw [xorL_len]; exact hn), List.getElem?_eq_none (by rw [xorL_len]; exact hn)]
theorem info_Byte : (Try.prog.info? 5).map (fun i => (i.zero, i.size, i.bytes)) = some (some (.int .u8 0), 1, 1) := by kernel_rfl
theorem make_Bytes (n : Nat) (hn : n ≤ 1048576) (w : World) :
    (Instr.makeSlice 22 (.int .i64 (n : Int)) (.int .i64 (n : Int))).run Try.prog w = .ok (.slice (some ⟨w.heap.size, 0, none⟩) n n) (w.alloc (.cells (madeCells #[.int .u8 0] (n)) 5)) := by
  obtain ⟨i, hi, hz, hs, hb⟩ := info_parts info_Byte
  have hr := run_make (P := Try.prog) w 22 5 i (.int .u8 0) Try.underlying22 hi hz .i64 .i64 n n (by omega) (by omega) (by rw [hb]; omega) (by omega)
  simp only [Int.toNat_natCast, hs, Nat.mul_one] at hr
  exact hr
def halfN (n : Nat) : Nat := (n + 1) / 2
def cutA (s : ByteArray) : ByteArray := s.extract 0 (halfN s.size)
def cutB (s : ByteArray) : ByteArray := s.extract (halfN s.size) s.size
def cutP (s : ByteArray) : ByteArray := strOfNums (xorL (cutA s) (cutB s) (halfN s.size) (s.size - halfN s.size))
def cutS (s : ByteArray) : List ByteArray := [cutA s, cutB s, cutP s]
/-- In a region: a literal of three texts. -/
def softLit3 (B : Nat) (a b c : ByteArray) : StP := ⟨fun v w => ∃ q, v = .slice (some ⟨q, 0, none⟩) 3 3 ∧ B ≤ q ∧ w.heap[q]? = some (.cells #[.string a, .string b, .string c] 9 (0, 0)),
  fun v w w' hs ⟨q, e, h1, h2⟩ => ⟨q, e, h1, (Below.block hs q (Array.getElem?_eq_some_iff.1 h2).1).trans h2⟩⟩
theorem lit3_slice {w : World} {lo hi q : Nat} {a b c : ByteArray} {t : TypeId} (h : w.heap[q]? = some (.cells #[.string a, .string b, .string c] t (0, 0))) (h1 : lo ≤ q) (h2 : q < hi) (h3 : hi ≤ w.heap.size) (ha : a.size ≤ maxLen) (hb : b.size ≤ maxLen) (hc : c.size ≤ maxLen) :
    SliceR StrR 1 w lo hi (some ⟨q, 0, none⟩) 3 3 [a, b, c] := by
  refine ⟨rfl, Nat.le_refl _, by unfold maxLen; omega, h3, (fun e => by cases e), fun _ => ⟨q, 0, rfl, h1, h2, fun j x hx => ?_⟩⟩
  have key : ∀ i, w.cell? ⟨q, 0 + i, none⟩ = #[Value.string a, .string b, .string c][i]? := fun i => by rw [Nat.zero_add, cell_of_row _ _ _ _ _ (0, 0) h]
  match j, hx with
  | 0, hx => obtain rfl : a = x := by simpa using hx
             exact ⟨[.string a], rfl, fun i v hv => by match i, hv with
                                                       | 0, hv => rw [← hv]; exact key 0
                                                       | i + 1, hv => simp at hv, rfl, ha⟩
  | 1, hx => obtain rfl : b = x := by simpa using hx
             exact ⟨[.string b], rfl, fun i v hv => by match i, hv with
                                                       | 0, hv => rw [← hv]; exact key 1
                                                       | i + 1, hv => simp at hv, rfl, hb⟩
  | 2, hx => obtain rfl : c = x := by simpa using hx
             exact ⟨[.string c], rfl, fun i v hv => by match i, hv with
                                                       | 0, hv => rw [← hv]; exact key 2
                                                       | i + 1, hv => simp at hv, rfl, hc⟩
  | j + 3, hx => simp at hx
theorem nums_size (l : List Int) : (strOfNums l).size = l.length := by simp [strOfNums, ByteArray.size]
theorem cutA_size (s : ByteArray) : (cutA s).size = halfN s.size := by unfold cutA halfN; rw [ByteArray.size_extract]; omega
theorem cutB_size (s : ByteArray) : (cutB s).size = s.size - halfN s.size := by unfold cutB halfN; rw [ByteArray.size_extract]; omega
theorem cutP_size (s : ByteArray) : (cutP s).size = halfN s.size := by
  unfold cutP
  rw [nums_size, xorL_len]
set_option maxHeartbeats 1000000 in
theorem l4Half_any (n : Nat) (h : n ≤ 1000) (w : World) : Calls Try.prog 68 #[.int .i64 (n : Int)] w fun e w' => e = .returned (.int .i64 (halfN n : Nat)) ∧ w = w' := by
  obtain ⟨m, hm⟩ : ∃ m, m = halfN n := ⟨_, rfl⟩
  rw [← hm]
  have h1 : ((n : Int) + 1) / 2 = (m : Int) := by rw [hm]; unfold halfN; omega
  clear hm
  go_enter Try.func68, Try.ntmps68
  go_wp2_with fail
  go_ret
  exact ⟨ret_int h1, rfl⟩
theorem cutP_eq {s : ByteArray} {h : Nat} (hh : halfN s.size = h) (h1 : 1 ≤ s.size) : ∀ i, i < h → xb (cutA s) (cutB s) (s.size - h) i = if h + i < s.size then bits .xor .u8 (bv s i) (bv s (h + i)) else bv s i := by
  intro i hi
  have hle : h ≤ s.size := by rw [← hh]; unfold halfN; omega
  unfold xb cutA cutB
  rw [hh]
  by_cases hlt : h + i < s.size
  · rw [if_pos hlt, if_pos (by omega), ext_byte (by omega) hle, ext_byte (by omega) (Nat.le_refl _), Nat.zero_add]
  · rw [if_neg hlt, if_neg (by omega), ext_byte (by omega) hle, Nat.zero_add]
set_option maxRecDepth 100000 in
set_option maxHeartbeats 4000000 in
theorem l4Cut_any (s : ByteArray) (w : World) (h1 : 1 ≤ s.size) (h2 : s.size ≤ 128) :
    Calls Try.prog 46 #[.string s] w fun e w' => ∃ A c, e = .returned (.slice A 3 c) ∧ SliceR StrR 1 w' w.heap.size w'.heap.size A 3 c (cutS s) ∧ Below w.heap.size w w' := by
  obtain ⟨h, hh⟩ : ∃ h, h = halfN s.size := ⟨_, rfl⟩
  have hle : h ≤ s.size := by rw [hh]; unfold halfN; omega
  have hP := cutP_eq hh.symm h1
  have HP := Lib.hid hP
  have HH := Lib.hid hh
  have R1 := l4Half_any s.size (by omega) 
  rw [← hh] at R1
  clear hP hh
  obtain ⟨i0, hi0, hz0, hz1, hz2⟩ := info_parts info_Byte
  go_enter Try.func46, Try.ntmps46
  go_wp2_with (go_at_call 68; with_reducible refine (R1 _).mono ?_; rintro e w' ⟨rfl, rfl⟩)
  go_loopw [4, 5] (fun t i wr => ∃ (r : Nat) (A' : Option Addr) (c' : Nat) (S : List Nat), r ≤ h ∧ t = .slice A' r c' ∧ i = .int .i64 (r : Int) ∧ Hid (OwnA wr 5 1 S A' r c' (((xorL (cutA s) (cutB s) h (s.size - h)).take r).map (Value.int .u8))) ∧ Hid (∀ g ∈ S, w.heap.size ≤ g) ∧ Hid (Below w.heap.size w wr)) (fun _ i _ => h - (intOf i).toNat)
  case atStart => exact ⟨0, _, 0, [], Nat.zero_le _, rfl, rfl, Lib.hid (by simpa using OwnA.nil _), Lib.hid (by simp), Lib.hid bel1⟩
  case round =>
    obtain ⟨r, A', c', S, hr, rfl, rfl, HO, HS, HB⟩ := hrel
    by_cases hlt : r < h
    · have hbv := bv_get (s := s) (j := r) (by omega)
      have r0 : (0 : Int) ≤ (r : Int) := by omega
      have r1 : (r : Int) < (h : Int) := by omega
      have r2 : (r : Int) < (s.size : Int) := by omega
      have h0 : (0 : Int) ≤ (h : Int) := by omega
      have htn : ((h : Int) + (r : Int)).toNat = h + r := by omega
      have hx := HP.out r hlt
      have htk : ∀ v, xb (cutA s) (cutB s) (s.size - h) r = v → (xorL (cutA s) (cutB s) h (s.size - h)).take (r + 1) = (xorL (cutA s) (cutB s) h (s.size - h)).take r ++ [v] := fun v hv => by
        rw [List.take_succ_eq_append_getElem (by rw [xorL_len]; exact hlt)]
        congr 2
        have := xorL_get (a := cutA s) (b := cutB s) (m := s.size - h) hlt
        rw [List.getElem?_eq_getElem (by rw [xorL_len]; exact hlt)] at this
        rw [← hv]; exact Option.some.inj this
      have HT := Lib.hid htk; clear htk
      have hl : (((xorL (cutA s) (cutB s) h (s.size - h)).take r).map (Value.int .u8)).length = r := by simp [xorL_len]; omega
      have HL := Lib.hid hl; clear hl
      obtain ⟨vs, hvs⟩ : ∃ vs, vs = ((xorL (cutA s) (cutB s) h (s.size - h)).take r).map (Value.int .u8) := ⟨_, rfl⟩
      rw [← hvs] at HO HL
      have HVS := Lib.hid hvs; clear hvs
      by_cases hlt3 : h + r < s.size
      · rw [if_pos hlt3] at hx
        have hbv2 := bv_get hlt3
        have g1 : (h : Int) + (r : Int) < (s.size : Int) := by omega
        obtain ⟨v, hv⟩ : ∃ v, v = bits .xor .u8 (bv s r) (bv s (h + r)) := ⟨_, rfl⟩
        rw [← hv] at hx
        have HX := Lib.hid hx; clear hx
        have hv' : bits .xor .u8 (bv s r) (bv s (h + r)) = v := hv.symm
        clear hv
        have HLIT : Hid (RowAt (wr.alloc (.cells #[.int .u8 v] 5)) (some ⟨wr.heap.size, 0, none⟩) (1 * 1) [.int .u8 v]) := Lib.hid (RowAt.lit (m := 1) rfl)
        have HONE : Hid (∀ u ∈ [Value.int .u8 v], u.oneCell' = true) := Lib.hid (by intro u hu; simp at hu; subst hu; rfl)
        have HOA := Lib.hid (HO.out.below (bel1 (o := .cells #[.int .u8 v] 5)))
        go_wp2_with (at_builtin; go_must (refine wpList_append_row rfl _ _ 22 rfl 5 i0 (.int .u8 0) 1 1 Try.underlying22 hi0 hz0 hz1 hz2 rfl (by decide) S A' (some ⟨wr.heap.size, 0, none⟩) r c' 1 _ vs [.int .u8 v] rfl rfl HOA.out HLIT.out HONE.out (by unfold maxLen; omega) (by omega) ?_))
        intro A2 c2 S2 w4 hO2 hS2 hC2
        have HO2 : Hid (OwnA w4 5 1 S2 A2 (r + 1) c2 (((xorL (cutA s) (cutB s) h (s.size - h)).take (r + 1)).map (Value.int .u8))) := Lib.hid (by rw [HT.out v HX.out, List.map_append, ← HVS.out]; exact hO2)
        have HS2 : Hid (∀ g ∈ S2, w.heap.size ≤ g) := Lib.hid (fun g hg => (hS2 g hg).elim (HS.out g) (fun h => by have := HB.out.size; first | omega | (simp at h; omega)))
        have HB2 : Hid (Below w.heap.size w w4) := Lib.hid ((HB.out.alloc HB.out.size _).trans (hC2.below (B := w.heap.size) (fun b _ hb => HS.out b hb) (by have := HB.out.size; simp; omega)))
        clear hO2 hS2 hC2 HOA HLIT HONE
        go_wp2_with fail
        go_roundw
        case rel =>
          exact ⟨r + 1, A2, c2, S2, by omega, rfl, by go_num, HO2, HS2, HB2⟩
        case measure => simp [intOf]; omega
      · rw [if_neg hlt3] at hx
        have g1 : ¬ (h : Int) + (r : Int) < (s.size : Int) := by omega
        obtain ⟨v, hv⟩ : ∃ v, v = bv s r := ⟨_, rfl⟩
        rw [← hv] at hx hbv
        have HX := Lib.hid hx; clear hx hv
        have HLIT : Hid (RowAt (wr.alloc (.cells #[.int .u8 v] 5)) (some ⟨wr.heap.size, 0, none⟩) (1 * 1) [.int .u8 v]) := Lib.hid (RowAt.lit (m := 1) rfl)
        have HONE : Hid (∀ u ∈ [Value.int .u8 v], u.oneCell' = true) := Lib.hid (by intro u hu; simp at hu; subst hu; rfl)
        have HOA := Lib.hid (HO.out.below (bel1 (o := .cells #[.int .u8 v] 5)))
        go_wp2_with (at_builtin; go_must (refine wpList_append_row rfl _ _ 22 rfl 5 i0 (.int .u8 0) 1 1 Try.underlying22 hi0 hz0 hz1 hz2 rfl (by decide) S A' (some ⟨wr.heap.size, 0, none⟩) r c' 1 _ vs [.int .u8 v] rfl rfl HOA.out HLIT.out HONE.out (by unfold maxLen; omega) (by omega) ?_))
        intro A2 c2 S2 w4 hO2 hS2 hC2
        have HO2 : Hid (OwnA w4 5 1 S2 A2 (r + 1) c2 (((xorL (cutA s) (cutB s) h (s.size - h)).take (r + 1)).map (Value.int .u8))) := Lib.hid (by rw [HT.out v HX.out, List.map_append, ← HVS.out]; exact hO2)
        have HS2 : Hid (∀ g ∈ S2, w.heap.size ≤ g) := Lib.hid (fun g hg => (hS2 g hg).elim (HS.out g) (fun h => by have := HB.out.size; first | omega | (simp at h; omega)))
        have HB2 : Hid (Below w.heap.size w w4) := Lib.hid ((HB.out.alloc HB.out.size _).trans (hC2.below (B := w.heap.size) (fun b _ hb => HS.out b hb) (by have := HB.out.size; simp; omega)))
        clear hO2 hS2 hC2 HOA HLIT HONE
        go_wp2_with fail
        go_roundw
        case rel =>
          exact ⟨r + 1, A2, c2, S2, by omega, rfl, by go_num, HO2, HS2, HB2⟩
        case measure => simp [intOf]; omega
    · obtain rfl : r = h := by omega
      have hcv : ∀ W, Below wr.heap.size wr W → (convert 22 9 (.slice A' r c')).run Try.prog W = .ok (.string (cutP s)) W := fun W hb => by
        have hrow := (HO.out.below hb).at_
        have hpos : 0 < r := by rw [HH.out]; unfold halfN; omega
        rw [List.take_of_length_le (by rw [xorL_len]; exact Nat.le_refl _)] at hrow
        obtain ⟨b, off, rfl, hc⟩ := hrow.2 (by omega)
        have := run_convert_bytes_arg (P := Try.prog) W 22 5 Try.underlying22 Try.underlying5 b off r c' _ (xorL_len (cutA s) (cutB s) r (s.size - r)) (fun i hi => by
          rw [hc i (by omega)]
          simp [List.getElem?_map, List.getD_eq_getElem?_getD, xorL_get hi]) 9 Try.underlying9
        rw [this]
        unfold cutP
        rw [← HH.out]
      have HCV := Lib.hid hcv; clear hcv
      have hn : (r : Int) ≤ (s.size : Int) := by omega
      have hA : s.extract 0 r = cutA s := by unfold cutA; rw [← HH.out]
      have hB : s.extract r s.size = cutB s := by unfold cutB; rw [← HH.out]
      go_wp2_with fail
      apply wp_region_rg (by kernel_rfl) (false :: false :: true :: false :: false :: false :: false :: false :: false :: false :: false :: false :: false :: false :: false :: false :: false :: false :: false :: false :: false :: false :: false :: false :: false :: false :: false :: false :: false :: false :: false :: false :: false :: false :: false :: false :: true :: true :: true :: true :: true :: true :: true :: true :: true :: []) [some 36, some 37, some 38, some 39, some 40, some 41, some 42, some 43, some 44, some 2] [[], [], [0, 1], [], [], [3, 4], [], [6], [2, 5, 7], [8]] [StP.is _, StP.is _, StP.is _, StP.is _, StP.is _, StP.is _, StP.is _, StP.is _, softLit3 w.heap.size (cutA s) (cutB s) (cutP s), softLit3 w.heap.size (cutA s) (cutB s) (cutP s)] (by kernel_rfl)
      case hobs =>
        refine ⟨fun y w' hS hF K hK => ?_, ?_⟩
        · skip -- 0: move
          simp only [fillL, cond_true, cond_false, List.getD_cons_zero, List.getD_cons_succ, StP.is, Act.put, List.setIfInBounds_toArray, List.set_cons_zero, List.set_cons_succ, Nat.reduceAdd] at hK ⊢
          refine rg_yes (by kernel_rfl) ?_
          clear hF
          go_simp
          exact hK _ _ (Ext.refl _) rfl
        refine ⟨fun y w' hS hF K hK => ?_, ?_⟩
        · skip -- 1: move
          simp only [fillL, cond_true, cond_false, List.getD_cons_zero, List.getD_cons_succ, StP.is, Act.put, List.setIfInBounds_toArray, List.set_cons_zero, List.set_cons_succ, Nat.reduceAdd] at hK ⊢
          refine rg_yes (by kernel_rfl) ?_
          clear hF
          go_simp
          exact hK _ _ (Ext.refl _) rfl
        refine ⟨fun y w' hS hF K hK => ?_, ?_⟩
        · skip -- 2: slice
          have e36 : y 36 = _ := hF.1
          have e37 : y 37 = _ := hF.2.1
          simp only [fillL, cond_true, cond_false, List.getD_cons_zero, List.getD_cons_succ, StP.is, Act.put, List.setIfInBounds_toArray, List.set_cons_zero, List.set_cons_succ, Nat.reduceAdd, e36, e37] at hK ⊢
          refine rg_yes (by kernel_rfl) ?_
          clear e36 e37
          clear hF
          go_simp
          exact hK _ _ (Ext.refl _) rfl
        refine ⟨fun y w' hS hF K hK => ?_, ?_⟩
        · skip -- 3: move
          simp only [fillL, cond_true, cond_false, List.getD_cons_zero, List.getD_cons_succ, StP.is, Act.put, List.setIfInBounds_toArray, List.set_cons_zero, List.set_cons_succ, Nat.reduceAdd] at hK ⊢
          refine rg_yes (by kernel_rfl) ?_
          clear hF
          go_simp
          exact hK _ _ (Ext.refl _) rfl
        refine ⟨fun y w' hS hF K hK => ?_, ?_⟩
        · skip -- 4: move
          simp only [fillL, cond_true, cond_false, List.getD_cons_zero, List.getD_cons_succ, StP.is, Act.put, List.setIfInBounds_toArray, List.set_cons_zero, List.set_cons_succ, Nat.reduceAdd] at hK ⊢
          refine rg_yes (by kernel_rfl) ?_
          clear hF
          go_simp
          exact hK _ _ (Ext.refl _) rfl
        refine ⟨fun y w' hS hF K hK => ?_, ?_⟩
        · skip -- 5: slice
          have e39 : y 39 = _ := hF.1
          have e40 : y 40 = _ := hF.2.1
          simp only [fillL, cond_true, cond_false, List.getD_cons_zero, List.getD_cons_succ, StP.is, Act.put, List.setIfInBounds_toArray, List.set_cons_zero, List.set_cons_succ, Nat.reduceAdd, e39, e40] at hK ⊢
          refine rg_yes (by kernel_rfl) ?_
          clear e39 e40
          clear hF
          go_simp
          exact hK _ _ (Ext.refl _) rfl
        refine ⟨fun y w' hS hF K hK => ?_, ?_⟩
        · skip -- 6: move
          simp only [fillL, cond_true, cond_false, List.getD_cons_zero, List.getD_cons_succ, StP.is, Act.put, List.setIfInBounds_toArray, List.set_cons_zero, List.set_cons_succ, Nat.reduceAdd] at hK ⊢
          refine rg_yes (by kernel_rfl) ?_
          clear hF
          go_simp
          exact hK _ _ (Ext.refl _) rfl
        refine ⟨fun y w' hS hF K hK => ?_, ?_⟩
        · skip -- 7: convert
          have e42 : y 42 = _ := hF.1
          simp only [fillL, cond_true, cond_false, List.getD_cons_zero, List.getD_cons_succ, StP.is, Act.put, List.setIfInBounds_toArray, List.set_cons_zero, List.set_cons_succ, Nat.reduceAdd, e42] at hK ⊢
          refine rg_yes (by kernel_rfl) ?_
          have hcv_ := HCV.out w' hS
          clear e42
          clear hF
          go_simp
          exact hK _ _ (Ext.refl _) rfl
        refine ⟨fun y w' hS hF K hK => ?_, ?_⟩
        · skip -- 8: buildSlice
          have e38 : y 38 = _ := hF.1
          have e41 : y 41 = _ := hF.2.1
          have e43 : y 43 = _ := hF.2.2.1
          simp only [fillL, cond_true, cond_false, List.getD_cons_zero, List.getD_cons_succ, StP.is, Act.put, List.setIfInBounds_toArray, List.set_cons_zero, List.set_cons_succ, Nat.reduceAdd, e38, e41, e43] at hK ⊢
          refine rg_yes (by kernel_rfl) ?_
          clear e38 e41 e43
          clear hF
          go_simp
          exact hK _ _ (Ext.alloc _ _) ⟨_, rfl, by have := HB.out.size; have := Below.size hS; omega, heap_alloc_new _ _⟩
        refine ⟨fun y w' hS hF K hK => ?_, ?_⟩
        · skip -- 9: assign
          obtain ⟨q, e44, hq1, hq2⟩ := hF.1
          simp only [fillL, cond_true, cond_false, List.getD_cons_zero, List.getD_cons_succ, StP.is, Act.put, List.setIfInBounds_toArray, List.set_cons_zero, List.set_cons_succ, Nat.reduceAdd, e44] at hK ⊢
          refine rg_yes (by kernel_rfl) ?_
          clear e44
          clear hF
          go_simp
          exact hK _ _ (Ext.refl _) ⟨q, rfl, hq1, hq2⟩
        trivial
      case hend =>
        intro y w6 hX hF
        obtain ⟨q, e2, hq1, hq2⟩ := hF.2.2.2.2.2.2.2.2.2.1
        clear hF
        simp only [fillL, cond_true, cond_false, Nat.reduceAdd, e2]
        clear e2
        have HB6 : Hid (Below w.heap.size w w6) := Lib.hid (HB.out.trans (Below.mono hX HB.out.size))
        go_wp2_with fail
        go_ret
        exact ⟨_, 3, rfl, lit3_slice hq2 hq1 (Array.getElem?_eq_some_iff.1 hq2).1 (Nat.le_refl _) (by rw [cutA_size]; unfold halfN maxLen; omega) (by rw [cutB_size]; unfold maxLen; omega) (by rw [cutP_size]; unfold halfN maxLen; omega), HB6.out⟩
end Go.Proofs.Ytfokpjoeankobaa
