/- PtrGet of the program; l2Cut. Condition: the variables that the library reads lie as the row says; the text is at most a million bytes. -/
import Derived.Test.YtcfgbeajdkbbcaaGreatDoorPtrPlain
import Derived.Test.YtcfgbeajdkbbcaaGreatDoorPtrPut
import Derived.Test.YtcfgbeajdkbbcaaGreatDoorFieldsGet
import Derived.Test.YtcfgbeajdkbbcaaGreatDoorSpFieldsGet
namespace Go.Proofs.YtcfgbeajdkbbcaaGreatDoor
set_option linter.unusedVariables false
set_option linter.unusedSimpArgs false
set_option linter.unnecessarySimpa false
open Go Go.Lib Go.RowKit

theorem map_strB {xs : List ByteArray} {fs : List Str} (h : xs.map (·.data.toList) = fs) : xs = fs.map strB := by
  subst h
  rw [List.map_map]
  have : (strB ∘ fun x : ByteArray => x.data.toList) = id := by funext x; exact strB_data x
  rw [this, List.map_id]
theorem splitS_any (s : Str) (w : World) (he : Env w) (hs : s.length ≤ 1000000) : Calls Tryz.prog 137 #[.string (strB s), .string ⟨#[46]⟩] w (NewStrs (splitD s) w) := by
  obtain ⟨_, _, m, hm⟩ := he
  refine (Tryz.strings_Split (strB s) ⟨#[46]⟩ m w (by rw [strB_size]; omega) hm (by decide)).mono ?_
  rintro e w' ⟨rfl, rfl⟩
  have hd : (strB s).data.toList = s := by simp [strB]
  have hcount : countB (strB s) ⟨#[46]⟩ = s.count 46 := by
    show Lib.count (strB s).data.toList [46] = _
    rw [hd, count_one]
  have hmap := map_strB (splitB_data ⟨#[46]⟩ 0 (countB (strB s) ⟨#[46]⟩) (strB s))
  rw [hd] at hmap
  rw [show (⟨#[46]⟩ : ByteArray).data.toList = [46] from rfl, hcount, splitK_D _ _ rfl] at hmap
  have hlen : s.count 46 + 1 = (splitD s).length := by
    have := splitB_all ⟨#[46]⟩ (by decide) 0 _ (strB s) rfl
    rw [hcount, hmap, List.length_map] at this
    exact this.symm
  rw [hcount, hmap, hlen]
  refine ⟨_, _, rfl, StrsIn.lit (Nat.le_refl _) (heap_alloc_new _ _) (by simp [strV]) ?_, bel1⟩
  rw [← hlen]
  have : s.count 46 ≤ s.length := List.count_le_length
  unfold maxLen; omega
theorem split_from {s : Str} {a j : Nat} (haj : a ≤ j) (hj : j < s.length) (hc : s[j]? = some 46) (hf : (46 : UInt8) ∉ (s.drop a).take (j - a)) : splitD (s.drop a) = (s.drop a).take (j - a) :: splitD (s.drop (j + 1)) := by
  have h1 : (s.drop a)[j - a]? = some 46 := by rw [List.getElem?_drop, show a + (j - a) = j by omega]; exact hc
  have h2 := take_get h1
  rw [List.drop_drop, show a + (j - a + 1) = j + 1 by omega] at h2
  have h3 := splitD_cut (b := s.drop (j + 1)) hf
  rw [← h2] at h3
  exact h3
set_option maxRecDepth 100000 in
set_option maxHeartbeats 4000000 in
theorem l2Cut_any (s : Str) (w : World) (hs : s.length ≤ 1000000) : Calls Tryz.prog 129 #[.string (strB s), .int .u8 46] w (NewStrs (splitD s) w) := by
  have hsz : (strB s).size = s.length := rfl
  obtain ⟨i0, hi0, hz0, hz1, hz2⟩ := info_parts info_strs
  go_enter Tryz.func129, Tryz.ntmps129
  go_wp2_with fail
  go_loopw [5, 6, 7] (fun t f i wr => ∃ (out : List Str) (a j : Nat) (A : Option Addr) (c n : Nat), t = .slice A n c ∧ f = .int .i64 (a : Int) ∧ i = .int .i64 (j : Int) ∧ a ≤ j ∧ j ≤ s.length ∧ n ≤ a ∧ Hid (n = out.length) ∧ Hid (splitD s = out ++ splitD (s.drop a)) ∧ Hid ((46 : UInt8) ∉ (s.drop a).take (j - a)) ∧ Hid (StrsIn w.heap.size wr A c out) ∧ Hid (Below w.heap.size w wr)) (fun _ _ i _ => s.length - (RowKit.intOf i).toNat)
  case atStart => exact ⟨[], 0, 0, _, 0, 0, rfl, rfl, rfl, by omega, by omega, by omega, Lib.hid rfl, Lib.hid rfl, Lib.hid (by simp), Lib.hid (StrsIn.nil' _), Lib.hid bel1⟩
  case round =>
    obtain ⟨out, a, j, A, c, n, rfl, rfl, rfl, haj, hj, hna, HN, HE, HF, HI, HB⟩ := hrel
    have hbw : w.heap.size ≤ wr.heap.size := HB.out.size
    have ha0 : (0 : Int) ≤ (a : Int) := by omega
    by_cases hlt : j < s.length
    · have hd : (j : Int) < (s.length : Int) := by omega
      have hlk : j < (strB s).size := by rw [hsz]; exact hlt
      obtain ⟨ch, x, hc, hx, hx9, hg⟩ := str_get2 hlk
      by_cases h46 : x = 46
      · have hch : ch = 46 := UInt8.toNat_inj.1 (by rw [← hx, h46]; rfl)
        rw [hch] at hc
        have hsp := split_from haj hlt hc HF.out
        obtain ⟨y, hy⟩ : ∃ y, y = (s.drop a).take (j - a) := ⟨_, rfl⟩
        have hx1 : (strB s).extract a j = strB y := by
          have := ext_mid s a (j - a)
          rw [show a + (j - a) = j by omega] at this
          rw [this, hy]
        rw [← hy] at hsp
        have HSP := Lib.hid hsp
        have g1 : (a : Int) ≤ (j : Int) := by omega
        have g2 : (j : Int) ≤ (s.length : Int) := by omega
        have g3 : (0 : Int) ≤ (j : Int) := by omega
        have u1 : IntKind.i64.wrap ((j : Int) + 1) = (j : Int) + 1 := IntWalk.i64_in _ (by omega)
        subst h46
        clear hc hx hch hsp hy
        obtain ⟨S, hOS, hSB⟩ := HI.out
        rw [← HN.out] at hOS
        have HOA := Lib.hid (hOS.below (bel1 (o := .cells #[.string (strB y)] 9)))
        have HLIT := Lib.hid (fun (W : World) => RowAt.lit (w := W) (e := 9) (cur := #[.string (strB y)]) (m := 1) rfl)
        have HONE : Hid (∀ u ∈ [y].map strV, u.oneCell' = true) := Lib.hid (strs_one _)
        have HSB := Lib.hid hSB
        clear hOS hSB HI
        go_wp2_with (at_builtin; go_must (refine wpList_append_row rfl _ _ 70 rfl 9 i0 (.string ByteArray.empty) 1 16 Tryz.underlying70 hi0 hz0 hz1 hz2 rfl (by decide) S A _ n c 1 _ (out.map strV) ([y].map strV) rfl rfl HOA.out (HLIT.out _) HONE.out (by unfold maxLen; omega) (by omega) ?_))
        intro A' c' S' w5 hO' hS' hC'
        obtain ⟨hI5, hb5⟩ := app_strs (B := w.heap.size) HSB.out (w1 := wr.alloc (.cells #[.string (strB y)] 9)) (fs := out) (gs := [y]) (by simp; omega) (by rw [List.length_append, List.length_singleton, HN.out]) hO' (fun g hg => (hS' g hg).imp id (fun h => by simpa using h)) hC'
        have HB5 := Lib.hid (HB.out.trans (((Below.refl _ _).alloc hbw _).trans hb5))
        have HI5 := Lib.hid hI5
        have HE5 : Hid (splitD s = (out ++ [y]) ++ splitD (s.drop (j + 1))) := Lib.hid (by rw [HE.out, HSP.out]; simp)
        have HN5 : Hid (n + 1 = (out ++ [y]).length) := Lib.hid (by rw [List.length_append, List.length_singleton, HN.out])
        have HF5 : Hid ((46 : UInt8) ∉ (s.drop (j + 1)).take (j + 1 - (j + 1))) := Lib.hid (by simp)
        clear hb5 hO' hS' hC' HOA HLIT HONE HSB HE HF HN hI5 hx1 HSP
        go_wp2_with fail
        go_roundw
        case rel => exact ⟨out ++ [y], j + 1, j + 1, A', c', n + 1, rfl, by simp, by simp, by omega, by omega, by omega, HN5, HE5, HF5, HI5, HB5⟩
        case measure => simp [RowKit.intOf]; omega
      · have hxb : ((x : Int) == 46) = false := by simp; omega
        have hxc : ¬ (x : Int) = 46 := by omega
        have HF2 : Hid ((46 : UInt8) ∉ (s.drop a).take (j + 1 - a)) := Lib.hid (by
          rw [show j + 1 - a = (j - a) + 1 by omega, List.take_add_one, List.getElem?_drop, show a + (j - a) = j by omega, hc]
          simp only [Option.toList_some, List.mem_append, List.mem_singleton, not_or]
          exact ⟨HF.out, fun e => h46 (by rw [hx, ← e]; rfl)⟩)
        clear hc hx HF
        go_wp2_with fail
        go_roundw
        case rel => exact ⟨out, a, j + 1, A, c, n, rfl, rfl, by simp, by omega, by omega, hna, HN, HE, HF2, HI, HB⟩
        case measure => simp [RowKit.intOf]; omega
    · have hd : ¬ (j : Int) < (s.length : Int) := by omega
      obtain rfl : j = s.length := by omega
      obtain ⟨y, hy⟩ : ∃ y, y = s.drop a := ⟨_, rfl⟩
      have hx1 : (strB s).extract a s.length = strB y := by rw [hy]; exact ext_tail s a
      have HSP : Hid (splitD s = out ++ [y]) := Lib.hid (by
        have hf : (46 : UInt8) ∉ s.drop a := by have := HF.out; rwa [List.take_of_length_le (by rw [List.length_drop]; exact Nat.le_refl _)] at this
        rw [HE.out, splitD_free hf, hy])
      have g1 : (a : Int) ≤ (s.length : Int) := by omega
      clear hy
      obtain ⟨S, hOS, hSB⟩ := HI.out
      rw [← HN.out] at hOS
      have HOA := Lib.hid (hOS.below (bel1 (o := .cells #[.string (strB y)] 9)))
      have HLIT := Lib.hid (fun (W : World) => RowAt.lit (w := W) (e := 9) (cur := #[.string (strB y)]) (m := 1) rfl)
      have HONE : Hid (∀ u ∈ [y].map strV, u.oneCell' = true) := Lib.hid (strs_one _)
      have HSB := Lib.hid hSB
      clear hOS hSB HI
      go_wp2_with (at_builtin; go_must (refine wpList_append_row rfl _ _ 70 rfl 9 i0 (.string ByteArray.empty) 1 16 Tryz.underlying70 hi0 hz0 hz1 hz2 rfl (by decide) S A _ n c 1 _ (out.map strV) ([y].map strV) rfl rfl HOA.out (HLIT.out _) HONE.out (by unfold maxLen; omega) (by omega) ?_))
      intro A' c' S' w5 hO' hS' hC'
      obtain ⟨hI5, hb5⟩ := app_strs (B := w.heap.size) HSB.out (w1 := wr.alloc (.cells #[.string (strB y)] 9)) (fs := out) (gs := [y]) (by simp; omega) (by rw [List.length_append, List.length_singleton, HN.out]) hO' (fun g hg => (hS' g hg).imp id (fun h => by simpa using h)) hC'
      have HB5 := Lib.hid (HB.out.trans (((Below.refl _ _).alloc hbw _).trans hb5))
      have HN5 : Hid (n + 1 = (out ++ [y]).length) := Lib.hid (by rw [List.length_append, List.length_singleton, HN.out])
      have HI5 := Lib.hid hI5
      clear hb5 hO' hS' hC' HOA HLIT HONE HSB HE HF hI5 hx1
      go_wp2_with fail
      go_ret
      exact ⟨A', c', by rw [HSP.out, ← HN5.out]; rfl, by rw [HSP.out]; exact HI5.out, HB5.out⟩
end Go.Proofs.YtcfgbeajdkbbcaaGreatDoor
