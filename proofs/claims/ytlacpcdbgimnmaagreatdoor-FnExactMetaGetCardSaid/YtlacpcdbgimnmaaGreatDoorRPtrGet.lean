/- PtrGet of the program; l2Cut. Condition: the library's variables lie as the row says; the text is at most a million bytes. -/
import Derived.Test.YtlacpcdbgimnmaaGreatDoorRMetaPlain
import Derived.Test.YtlacpcdbgimnmaaGreatDoorRPtrPut
import Derived.Test.YtlacpcdbgimnmaaGreatDoorRSpFieldsGet
import Derived.Test.YtlacpcdbgimnmaaGreatDoorRTypes
set_option linter.unnecessarySimpa false
set_option linter.unusedSimpArgs false
set_option linter.unusedVariables false
namespace Go.Proofs.YtlacpcdbgimnmaaGreatDoor
section
open Go Go.Lib Go.RowKit
end
section
open Go Go.Lib Go.RowKit
theorem all_no' {α : Type} {f : α → Bool} {xs : List α} {k : Nat} {x : α} (hx : xs[k]? = some x) (h : f x = false) : xs.all f = false := by
 rw [List.all_eq_false]; exact ⟨x, List.mem_of_getElem? hx, by simp [h]⟩
theorem all_upto' {α : Type} {f : α → Bool} {xs : List α} {n : Nat} (hn : xs.length = n) (h : ∀ j x, j < n → xs[j]? = some x → f x = true) : xs.all f = true := by
 rw [List.all_eq_true]; intro x hx
 obtain ⟨j, hj, rfl⟩ := List.mem_iff_getElem.1 hx
 exact h j _ (by omega) (List.getElem?_eq_getElem hj)
theorem upto_step' {α : Type} {f : α → Bool} {xs : List α} {k : Nat} {x : α} (hp : ∀ j y, j < k → xs[j]? = some y → f y = true) (hx : xs[k]? = some x) (h : f x = true) : ∀ j y, j < k + 1 → xs[j]? = some y → f y = true := by
 intro j y hj hy
 rcases Nat.lt_or_ge j k with h2 | h2
 · exact hp j y h2 hy
 obtain rfl : j = k := by omega
 rw [hx] at hy; obtain rfl := Option.some.inj hy; exact h
set_option maxRecDepth 100000 in
set_option maxHeartbeats 2000000 in
theorem spNameOk_any (s : Str) (w : World) (hs : s.length ≤ 1099511627776) : Calls Tryz.prog 35 #[.string (strB s)] w fun e w' => e = .returned (.bool (namB s)) ∧ w = w' := by
 have hsz : (strB s).size = s.length := rfl
 have HRES : Hid (namB s = (inB (s.length : Int) 1 4 && s.all isLow)) := Lib.hid (by
  unfold namB inB
  congr 1
  rw [Bool.eq_iff_iff, decide_eq_true_iff, decide_eq_true_iff]
  omega)
 generalize namB s = res at *
 go_enter Tryz.func35, Tryz.ntmps35
 go_wp2_with fail
 go_loop [3] (fun i => ∃ j : Nat, j ≤ s.length ∧ i = .int .i64 (j : Int) ∧ Hid (∀ k c, k < j → s[k]? = some c → isLow c = true)) (fun i => s.length - (RowKit.intOf i).toNat)
 case atStart => exact ⟨0, Nat.zero_le _, rfl, Lib.hid (fun k c h => absurd h (by omega))⟩
 obtain ⟨j, hj, rfl, HP⟩ := hrel
 by_cases hlt : j < s.length
 · have hd : (j : Int) < (s.length : Int) := by omega
   have hlk : j < (strB s).size := by rw [hsz]; exact hlt
   obtain ⟨ch, x, hc, hx, hx9, hg⟩ := str_get2 hlk
   by_cases hlo : 97 ≤ x ∧ x ≤ 122
   · have HN := Lib.hid (upto_step' HP.out hc (isLow_iff.2 (by omega)))
     have g1 : ¬ (x : Int) < 97 := by omega
     have g2 : ¬ (122 : Int) < (x : Int) := by omega
     clear hc hx HP
     go_wp2_with fail
     go_round
     case rel => exact ⟨j + 1, by omega, by go_num, HN⟩
     simp [RowKit.intOf]; omega
   have HF := Lib.hid (show res = false by
    rw [HRES.out, all_no' hc (by
     cases h : isLow ch with
     | false => rfl
     | true => exact absurd (isLow_iff.1 h) (by omega))]; simp)
   clear hc hx HP
   by_cases g1 : (x : Int) < 97
   · go_wp2_with fail
     go_ret
     exact ⟨ret_bool HF.out.symm, rfl⟩
   have g2 : (122 : Int) < (x : Int) := by omega
   go_wp2_with fail
   go_ret
   exact ⟨ret_bool HF.out.symm, rfl⟩
 obtain rfl : j = s.length := by omega
 have hd : ¬ (s.length : Int) < (s.length : Int) := by omega
 have HF := Lib.hid (show res = inB (s.length : Int) 1 4 by rw [HRES.out, all_upto' rfl HP.out, Bool.and_true])
 clear HP
 go_wp2_with fail
 refine (l6In_any _ _ _ _).mono ?_
 rintro e w' ⟨rfl, rfl⟩
 obtain ⟨b, hb⟩ : ∃ b, b = inB (s.length : Int) 1 4 := ⟨_, rfl⟩
 rw [← hb]
 have HB := Lib.hid hb; clear hb
 go_wp2_with fail
 go_ret
 exact ⟨ret_bool (by rw [HF.out, HB.out]), rfl⟩
theorem nameOk1_pred (w : World) : PredAt Tryz.prog 80 #[] encR notLow w := fun W r _ => by
 unfold FnGives
 by_cases h1 : r < 97 <;> by_cases h2 : 122 < r
 all_goals
  have z1 : (r : Int) < 97 ↔ r < 97 := by omega
  have z2 : (122 : Int) < (r : Int) ↔ 122 < r := by omega
  go_enter Tryz.func80, Tryz.ntmps80
  go_wp2
  all_goals first | (exfalso; omega) | (go_ret; exact ⟨by simp [notLow, h1, h2], 0, rfl⟩)
set_option maxRecDepth 100000 in
set_option maxHeartbeats 2000000 in
theorem nameOk_any (s : Str) (w : World) : Calls Tryz.prog 64 #[.string (strB s)] w fun e w' => e = .returned (.bool (namB s)) ∧ Below w.heap.size w w' := by
 have hsz : (strB s).size = s.length := rfl
 have HRES : Hid (namB s = (inB (s.length : Int) 1 4 && s.all isLow)) := Lib.hid (by
  unfold namB inB
  congr 1
  rw [Bool.eq_iff_iff, decide_eq_true_iff, decide_eq_true_iff]
  omega)
 generalize namB s = res at *
 obtain ⟨I, hI⟩ : ∃ I, I = Lib.idxFunc notLow true (strB s) := ⟨_, rfl⟩
 have HI : Hid (decide (I < 0) = s.all isLow) := Lib.hid (by rw [hI]; exact nam_idx s)
 have C : ∀ W, Calls Tryz.prog 79 #[.string (strB s), .func (.func 80) #[] #[]] W fun e w' => e = .returned (.int .i64 I) ∧ Below W.heap.size W w' := fun W => by
  rw [hI]
  exact Tryz.strings_IndexFunc 80 #[] (enters_of Tryz.func80 (by kernel_rfl) rfl) notLow (strB s) W (nameOk1_pred W)
 have HC := Lib.hid C
 clear hI C
 go_enter Tryz.func64, Tryz.ntmps64
 go_wp2_with fail
 refine (within_any _ _ _ _).mono ?_
 obtain ⟨b, hb⟩ : ∃ b, b = inB (s.length : Int) 1 4 := ⟨_, rfl⟩
 rw [← hb]
 have HB := Lib.hid hb; clear hb
 rintro e w' ⟨rfl, rfl⟩
 cases b
 · have HF := Lib.hid (show res = false by rw [HRES.out, ← HB.out]; rfl)
   go_wp2_with fail
   go_ret
   exact ⟨ret_bool HF.out.symm, Below.refl _ _⟩
 have HF := Lib.hid (show res = decide (I < 0) by rw [HRES.out, ← HB.out, HI.out]; rfl)
 go_wp2_with fail
 refine (HC.out _).mono ?_
 rintro e w1 ⟨rfl, hb1⟩
 go_wp2_with fail
 go_ret
 exact ⟨ret_bool HF.out.symm, hb1⟩
end
section
open Go Go.Lib Go.RowKit
end
section
open Go Go.Lib Go.RowKit
end
end Go.Proofs.YtlacpcdbgimnmaaGreatDoor
namespace Go.Proofs.YtlacpcdbgimnmaaGreatDoor
open Go Go.Lib Go.RowKit
theorem map_strBC {xs : List ByteArray} {fs : List Str} (h : xs.map (·.data.toList) = fs) : xs = fs.map strB := by
 subst h
 rw [List.map_map]
 have : (strB ∘ fun x : ByteArray => x.data.toList) = id := by funext x; exact strB_data x
 rw [this, List.map_id]
theorem splitSC_any (s : Str) (w : World) (he : Env w) (hs : s.length ≤ 1000000) : Calls Tryz.prog 59 #[.string (strB s), .string ⟨#[44]⟩] w (NewStrs (splitC s) w) := by
 obtain ⟨_, _, m, hm⟩ := he
 refine (Tryz.strings_Split (strB s) ⟨#[44]⟩ m w (by rw [strB_size]; omega) hm (by decide)).mono ?_
 rintro e w' ⟨rfl, rfl⟩
 have hd : (strB s).data.toList = s := by simp [strB]
 have hcount : countB (strB s) ⟨#[44]⟩ = s.count 44 := by
  show Lib.count (strB s).data.toList [44] = _
  rw [hd, count_one]
 have hmap := map_strBC (splitB_data ⟨#[44]⟩ 0 (countB (strB s) ⟨#[44]⟩) (strB s))
 rw [hd] at hmap
 rw [show (⟨#[44]⟩ : ByteArray).data.toList = [44] from rfl, hcount, splitK_C _ _ rfl] at hmap
 have hlen : s.count 44 + 1 = (splitC s).length := by
  have := splitB_all ⟨#[44]⟩ (by decide) 0 _ (strB s) rfl
  rw [hcount, hmap, List.length_map] at this
  exact this.symm
 rw [hcount, hmap, hlen]
 refine ⟨_, _, rfl, StrsIn.lit (Nat.le_refl _) (heap_alloc_new _ _) (by simp [strV]) ?_, bel1⟩
 rw [← hlen]
 have : s.count 44 ≤ s.length := List.count_le_length
 unfold maxLen; omega
theorem splitC_from {s : Str} {a j : Nat} (haj : a ≤ j) (hj : j < s.length) (hc : s[j]? = some 44) (hf : (44 : UInt8) ∉ (s.drop a).take (j - a)) : splitC (s.drop a) = (s.drop a).take (j - a) :: splitC (s.drop (j + 1)) := by
 have h1 : (s.drop a)[j - a]? = some 44 := by rw [List.getElem?_drop, show a + (j - a) = j by omega]; exact hc
 have h2 := take_get h1
 rw [List.drop_drop, show a + (j - a + 1) = j + 1 by omega] at h2
 have h3 := splitC_cut (b := s.drop (j + 1)) hf
 rw [← h2] at h3
 exact h3
set_option maxRecDepth 100000 in
set_option maxHeartbeats 4000000 in
theorem l2CutC_any (s : Str) (w : World) (hs : s.length ≤ 1000000) : Calls Tryz.prog 28 #[.string (strB s), .int .u8 44] w (NewStrs (splitC s) w) := by
 have hsz : (strB s).size = s.length := rfl
 obtain ⟨i0, hi0, hz0, hz1, hz2⟩ := info_parts info_strs
 go_enter Tryz.func28, Tryz.ntmps28
 go_wp2_with fail
 go_loopw [5, 6, 7] (fun t f i wr => ∃ (out : List Str) (a j : Nat) (A : Option Addr) (c n : Nat), t = .slice A n c ∧ f = .int .i64 (a : Int) ∧ i = .int .i64 (j : Int) ∧ a ≤ j ∧ j ≤ s.length ∧ n ≤ a ∧ Hid (n = out.length) ∧ Hid (splitC s = out ++ splitC (s.drop a)) ∧ Hid ((44 : UInt8) ∉ (s.drop a).take (j - a)) ∧ Hid (StrsIn w.heap.size wr A c out) ∧ Hid (Below w.heap.size w wr)) (fun _ _ i _ => s.length - (RowKit.intOf i).toNat)
 case atStart => exact ⟨[], 0, 0, _, 0, 0, rfl, rfl, rfl, by omega, by omega, by omega, Lib.hid rfl, Lib.hid rfl, Lib.hid (by simp), Lib.hid (StrsIn.nil' _), Lib.hid bel1⟩
 obtain ⟨out, a, j, A, c, n, rfl, rfl, rfl, haj, hj, hna, HN, HE, HF, HI, HB⟩ := hrel
 have hbw : w.heap.size ≤ wr.heap.size := HB.out.size
 have ha0 : (0 : Int) ≤ (a : Int) := by omega
 by_cases hlt : j < s.length
 · have hd : (j : Int) < (s.length : Int) := by omega
   have hlk : j < (strB s).size := by rw [hsz]; exact hlt
   obtain ⟨ch, x, hc, hx, hx9, hg⟩ := str_get2 hlk
   by_cases h44 : x = 44
   · have hch : ch = 44 := UInt8.toNat_inj.1 (by rw [← hx, h44]; rfl)
     rw [hch] at hc
     have hsp := splitC_from haj hlt hc HF.out
     obtain ⟨y, hy⟩ : ∃ y, y = (s.drop a).take (j - a) := ⟨_, rfl⟩
     have hx1 : (strB s).extract a j = strB y := by
      have := ext_mid s a (j - a)
      rw [show a + (j - a) = j by omega] at this
      rw [this, hy]
     rw [← hy] at hsp
     have HSP := Lib.hid hsp
     have g1 : (a : Int) ≤ (j : Int) := by omega
     have g2 : (j : Int) ≤ (s.length : Int) := by omega
     have g3 : (0 : Int) ≤ (j : Int) := by omega
     have u1 : IntKind.i64.wrap ((j : Int) + 1) = (j : Int) + 1 := IntWalk.i64_in _ (by omega)
     subst h44
     clear hc hx hch hsp hy
     obtain ⟨S, hOS, hSB⟩ := HI.out
     rw [← HN.out] at hOS
     have HOA := Lib.hid (hOS.below (bel1 (o := .cells #[.string (strB y)] 9)))
     have HLIT := Lib.hid (fun (W : World) => RowAt.lit (w := W) (e := 9) (cur := #[.string (strB y)]) (m := 1) rfl)
     have HONE : Hid (∀ u ∈ [y].map strV, u.oneCell' = true) := Lib.hid (strs_one _)
     have HSB := Lib.hid hSB
     clear hOS hSB HI
     go_wp2_with (at_builtin; go_must (refine wpList_append_row rfl _ _ 31 rfl 9 i0 (.string ByteArray.empty) 1 16 Tryz.underlying31 hi0 hz0 hz1 hz2 rfl (by decide) S A _ n c 1 _ (out.map strV) ([y].map strV) rfl rfl HOA.out (HLIT.out _) HONE.out (by unfold maxLen; omega) (by omega) ?_))
     intro A' c' S' w5 hO' hS' hC'
     obtain ⟨hI5, hb5⟩ := app_strs (B := w.heap.size) HSB.out (w1 := wr.alloc (.cells #[.string (strB y)] 9)) (fs := out) (gs := [y]) (by simp; omega) (by rw [List.length_append, List.length_singleton, HN.out]) hO' (fun g hg => (hS' g hg).imp id (fun h => by simpa using h)) hC'
     have HB5 := Lib.hid (HB.out.trans (((Below.refl _ _).alloc hbw _).trans hb5))
     have HI5 := Lib.hid hI5
     have HE5 : Hid (splitC s = (out ++ [y]) ++ splitC (s.drop (j + 1))) := Lib.hid (by rw [HE.out, HSP.out]; simp)
     have HN5 : Hid (n + 1 = (out ++ [y]).length) := Lib.hid (by rw [List.length_append, List.length_singleton, HN.out])
     have HF5 : Hid ((44 : UInt8) ∉ (s.drop (j + 1)).take (j + 1 - (j + 1))) := Lib.hid (by simp)
     clear hb5 hO' hS' hC' HOA HLIT HONE HSB HE HF HN hI5 hx1 HSP
     go_wp2_with fail
     go_roundw
     case rel => exact ⟨out ++ [y], j + 1, j + 1, A', c', n + 1, rfl, by simp, by simp, by omega, by omega, by omega, HN5, HE5, HF5, HI5, HB5⟩
     simp [RowKit.intOf]; omega
   have hxb : ((x : Int) == 44) = false := by simp; omega
   have hxc : ¬ (x : Int) = 44 := by omega
   have HF2 : Hid ((44 : UInt8) ∉ (s.drop a).take (j + 1 - a)) := Lib.hid (by
    rw [show j + 1 - a = (j - a) + 1 by omega, List.take_add_one, List.getElem?_drop, show a + (j - a) = j by omega, hc]
    simp only [Option.toList_some, List.mem_append, List.mem_singleton, not_or]
    exact ⟨HF.out, fun e => h44 (by rw [hx, ← e]; rfl)⟩)
   clear hc hx HF
   go_wp2_with fail
   go_roundw
   case rel => exact ⟨out, a, j + 1, A, c, n, rfl, rfl, by simp, by omega, by omega, hna, HN, HE, HF2, HI, HB⟩
   simp [RowKit.intOf]; omega
 have hd : ¬ (j : Int) < (s.length : Int) := by omega
 obtain rfl : j = s.length := by omega
 obtain ⟨y, hy⟩ : ∃ y, y = s.drop a := ⟨_, rfl⟩
 have hx1 : (strB s).extract a s.length = strB y := by rw [hy]; exact ext_tail s a
 have HSP : Hid (splitC s = out ++ [y]) := Lib.hid (by
  have hf : (44 : UInt8) ∉ s.drop a := by have := HF.out; rwa [List.take_of_length_le (by rw [List.length_drop]; exact Nat.le_refl _)] at this
  rw [HE.out, splitC_free hf, hy])
 have g1 : (a : Int) ≤ (s.length : Int) := by omega
 clear hy
 obtain ⟨S, hOS, hSB⟩ := HI.out
 rw [← HN.out] at hOS
 have HOA := Lib.hid (hOS.below (bel1 (o := .cells #[.string (strB y)] 9)))
 have HLIT := Lib.hid (fun (W : World) => RowAt.lit (w := W) (e := 9) (cur := #[.string (strB y)]) (m := 1) rfl)
 have HONE : Hid (∀ u ∈ [y].map strV, u.oneCell' = true) := Lib.hid (strs_one _)
 have HSB := Lib.hid hSB
 clear hOS hSB HI
 go_wp2_with (at_builtin; go_must (refine wpList_append_row rfl _ _ 31 rfl 9 i0 (.string ByteArray.empty) 1 16 Tryz.underlying31 hi0 hz0 hz1 hz2 rfl (by decide) S A _ n c 1 _ (out.map strV) ([y].map strV) rfl rfl HOA.out (HLIT.out _) HONE.out (by unfold maxLen; omega) (by omega) ?_))
 intro A' c' S' w5 hO' hS' hC'
 obtain ⟨hI5, hb5⟩ := app_strs (B := w.heap.size) HSB.out (w1 := wr.alloc (.cells #[.string (strB y)] 9)) (fs := out) (gs := [y]) (by simp; omega) (by rw [List.length_append, List.length_singleton, HN.out]) hO' (fun g hg => (hS' g hg).imp id (fun h => by simpa using h)) hC'
 have HB5 := Lib.hid (HB.out.trans (((Below.refl _ _).alloc hbw _).trans hb5))
 have HN5 : Hid (n + 1 = (out ++ [y]).length) := Lib.hid (by rw [List.length_append, List.length_singleton, HN.out])
 have HI5 := Lib.hid hI5
 clear hb5 hO' hS' hC' HOA HLIT HONE HSB HE HF hI5 hx1
 go_wp2_with fail
 go_ret
 exact ⟨A', c', by rw [HSP.out, ← HN5.out]; rfl, by rw [HSP.out]; exact HI5.out, HB5.out⟩
end Go.Proofs.YtlacpcdbgimnmaaGreatDoor
namespace Go.Proofs.YtlacpcdbgimnmaaGreatDoor
open Go Go.Lib Go.RowKit
theorem map_strB {xs : List ByteArray} {fs : List Str} (h : xs.map (·.data.toList) = fs) : xs = fs.map strB := by
 subst h
 rw [List.map_map]
 have : (strB ∘ fun x : ByteArray => x.data.toList) = id := by funext x; exact strB_data x
 rw [this, List.map_id]
theorem splitS_any (s : Str) (w : World) (he : Env w) (hs : s.length ≤ 1000000) : Calls Tryz.prog 59 #[.string (strB s), .string ⟨#[46]⟩] w (NewStrs (splitD s) w) := by
 obtain ⟨_, _, m, hm⟩ := he
 refine (Tryz.strings_Split (strB s) ⟨#[46]⟩ m w (by rw [strB_size]; omega) hm (by decide)).mono ?_
 rintro e w' ⟨rfl, rfl⟩
 have hd : (strB s).data.toList = s := by simp [strB]
 have hcount : countB (strB s) ⟨#[46]⟩ = s.count 46 := by
  show Lib.count (strB s).data.toList [46] = _
  rw [hd, count_one]
 have hmap := map_strB (splitB_data ⟨#[46]⟩ 0 (countB (strB s) ⟨#[46]⟩) (strB s))
 rw [hd] at hmap
 rw [show (⟨#[46]⟩ : ByteArray).data.toList = [46] from rfl, hcount, splitK_D _ _ rfl] at hmap
 have hlen : s.count 46 + 1 = (splitD s).length := by
  have := splitB_all ⟨#[46]⟩ (by decide) 0 _ (strB s) rfl
  rw [hcount, hmap, List.length_map] at this
  exact this.symm
 rw [hcount, hmap, hlen]
 refine ⟨_, _, rfl, StrsIn.lit (Nat.le_refl _) (heap_alloc_new _ _) (by simp [strV]) ?_, bel1⟩
 rw [← hlen]
 have : s.count 46 ≤ s.length := List.count_le_length
 unfold maxLen; omega
theorem split_from {s : Str} {a j : Nat} (haj : a ≤ j) (hj : j < s.length) (hc : s[j]? = some 46) (hf : (46 : UInt8) ∉ (s.drop a).take (j - a)) : splitD (s.drop a) = (s.drop a).take (j - a) :: splitD (s.drop (j + 1)) := by
 have h1 : (s.drop a)[j - a]? = some 46 := by rw [List.getElem?_drop, show a + (j - a) = j by omega]; exact hc
 have h2 := take_get h1
 rw [List.drop_drop, show a + (j - a + 1) = j + 1 by omega] at h2
 have h3 := splitD_cut (b := s.drop (j + 1)) hf
 rw [← h2] at h3
 exact h3
set_option maxRecDepth 100000 in
set_option maxHeartbeats 4000000 in
theorem l2Cut_any (s : Str) (w : World) (hs : s.length ≤ 1000000) : Calls Tryz.prog 28 #[.string (strB s), .int .u8 46] w (NewStrs (splitD s) w) := by
 have hsz : (strB s).size = s.length := rfl
 obtain ⟨i0, hi0, hz0, hz1, hz2⟩ := info_parts info_strs
 go_enter Tryz.func28, Tryz.ntmps28
 go_wp2_with fail
 go_loopw [5, 6, 7] (fun t f i wr => ∃ (out : List Str) (a j : Nat) (A : Option Addr) (c n : Nat), t = .slice A n c ∧ f = .int .i64 (a : Int) ∧ i = .int .i64 (j : Int) ∧ a ≤ j ∧ j ≤ s.length ∧ n ≤ a ∧ Hid (n = out.length) ∧ Hid (splitD s = out ++ splitD (s.drop a)) ∧ Hid ((46 : UInt8) ∉ (s.drop a).take (j - a)) ∧ Hid (StrsIn w.heap.size wr A c out) ∧ Hid (Below w.heap.size w wr)) (fun _ _ i _ => s.length - (RowKit.intOf i).toNat)
 case atStart => exact ⟨[], 0, 0, _, 0, 0, rfl, rfl, rfl, by omega, by omega, by omega, Lib.hid rfl, Lib.hid rfl, Lib.hid (by simp), Lib.hid (StrsIn.nil' _), Lib.hid bel1⟩
 obtain ⟨out, a, j, A, c, n, rfl, rfl, rfl, haj, hj, hna, HN, HE, HF, HI, HB⟩ := hrel
 have hbw : w.heap.size ≤ wr.heap.size := HB.out.size
 have ha0 : (0 : Int) ≤ (a : Int) := by omega
 by_cases hlt : j < s.length
 · have hd : (j : Int) < (s.length : Int) := by omega
   have hlk : j < (strB s).size := by rw [hsz]; exact hlt
   obtain ⟨ch, x, hc, hx, hx9, hg⟩ := str_get2 hlk
   by_cases h46 : x = 46
   · have hch : ch = 46 := UInt8.toNat_inj.1 (by rw [← hx, h46]; rfl)
     rw [hch] at hc
     have hsp := split_from haj hlt hc HF.out
     obtain ⟨y, hy⟩ : ∃ y, y = (s.drop a).take (j - a) := ⟨_, rfl⟩
     have hx1 : (strB s).extract a j = strB y := by
      have := ext_mid s a (j - a)
      rw [show a + (j - a) = j by omega] at this
      rw [this, hy]
     rw [← hy] at hsp
     have HSP := Lib.hid hsp
     have g1 : (a : Int) ≤ (j : Int) := by omega
     have g2 : (j : Int) ≤ (s.length : Int) := by omega
     have g3 : (0 : Int) ≤ (j : Int) := by omega
     have u1 : IntKind.i64.wrap ((j : Int) + 1) = (j : Int) + 1 := IntWalk.i64_in _ (by omega)
     subst h46
     clear hc hx hch hsp hy
     obtain ⟨S, hOS, hSB⟩ := HI.out
     rw [← HN.out] at hOS
     have HOA := Lib.hid (hOS.below (bel1 (o := .cells #[.string (strB y)] 9)))
     have HLIT := Lib.hid (fun (W : World) => RowAt.lit (w := W) (e := 9) (cur := #[.string (strB y)]) (m := 1) rfl)
     have HONE : Hid (∀ u ∈ [y].map strV, u.oneCell' = true) := Lib.hid (strs_one _)
     have HSB := Lib.hid hSB
     clear hOS hSB HI
     go_wp2_with (at_builtin; go_must (refine wpList_append_row rfl _ _ 31 rfl 9 i0 (.string ByteArray.empty) 1 16 Tryz.underlying31 hi0 hz0 hz1 hz2 rfl (by decide) S A _ n c 1 _ (out.map strV) ([y].map strV) rfl rfl HOA.out (HLIT.out _) HONE.out (by unfold maxLen; omega) (by omega) ?_))
     intro A' c' S' w5 hO' hS' hC'
     obtain ⟨hI5, hb5⟩ := app_strs (B := w.heap.size) HSB.out (w1 := wr.alloc (.cells #[.string (strB y)] 9)) (fs := out) (gs := [y]) (by simp; omega) (by rw [List.length_append, List.length_singleton, HN.out]) hO' (fun g hg => (hS' g hg).imp id (fun h => by simpa using h)) hC'
     have HB5 := Lib.hid (HB.out.trans (((Below.refl _ _).alloc hbw _).trans hb5))
     have HI5 := Lib.hid hI5
     have HE5 : Hid (splitD s = (out ++ [y]) ++ splitD (s.drop (j + 1))) := Lib.hid (by rw [HE.out, HSP.out]; simp)
     have HN5 : Hid (n + 1 = (out ++ [y]).length) := Lib.hid (by rw [List.length_append, List.length_singleton, HN.out])
     have HF5 : Hid ((46 : UInt8) ∉ (s.drop (j + 1)).take (j + 1 - (j + 1))) := Lib.hid (by simp)
     clear hb5 hO' hS' hC' HOA HLIT HONE HSB HE HF HN hI5 hx1 HSP
     go_wp2_with fail
     go_roundw
     case rel => exact ⟨out ++ [y], j + 1, j + 1, A', c', n + 1, rfl, by simp, by simp, by omega, by omega, by omega, HN5, HE5, HF5, HI5, HB5⟩
     simp [RowKit.intOf]; omega
   have hxb : ((x : Int) == 46) = false := by simp; omega
   have hxc : ¬ (x : Int) = 46 := by omega
   have HF2 : Hid ((46 : UInt8) ∉ (s.drop a).take (j + 1 - a)) := Lib.hid (by
    rw [show j + 1 - a = (j - a) + 1 by omega, List.take_add_one, List.getElem?_drop, show a + (j - a) = j by omega, hc]
    simp only [Option.toList_some, List.mem_append, List.mem_singleton, not_or]
    exact ⟨HF.out, fun e => h46 (by rw [hx, ← e]; rfl)⟩)
   clear hc hx HF
   go_wp2_with fail
   go_roundw
   case rel => exact ⟨out, a, j + 1, A, c, n, rfl, rfl, by simp, by omega, by omega, hna, HN, HE, HF2, HI, HB⟩
   simp [RowKit.intOf]; omega
 have hd : ¬ (j : Int) < (s.length : Int) := by omega
 obtain rfl : j = s.length := by omega
 obtain ⟨y, hy⟩ : ∃ y, y = s.drop a := ⟨_, rfl⟩
 have hx1 : (strB s).extract a s.length = strB y := by rw [hy]; exact ext_tail s a
 have HSP : Hid (splitD s = out ++ [y]) := Lib.hid (by
  have hf : (46 : UInt8) ∉ s.drop a := by have := HF.out; rwa [List.take_of_length_le (by rw [List.length_drop]; exact Nat.le_refl _)] at this
  rw [HE.out, splitD_free hf, hy])
 have g1 : (a : Int) ≤ (s.length : Int) := by omega
 clear hy
 obtain ⟨S, hOS, hSB⟩ := HI.out
 rw [← HN.out] at hOS
 have HOA := Lib.hid (hOS.below (bel1 (o := .cells #[.string (strB y)] 9)))
 have HLIT := Lib.hid (fun (W : World) => RowAt.lit (w := W) (e := 9) (cur := #[.string (strB y)]) (m := 1) rfl)
 have HONE : Hid (∀ u ∈ [y].map strV, u.oneCell' = true) := Lib.hid (strs_one _)
 have HSB := Lib.hid hSB
 clear hOS hSB HI
 go_wp2_with (at_builtin; go_must (refine wpList_append_row rfl _ _ 31 rfl 9 i0 (.string ByteArray.empty) 1 16 Tryz.underlying31 hi0 hz0 hz1 hz2 rfl (by decide) S A _ n c 1 _ (out.map strV) ([y].map strV) rfl rfl HOA.out (HLIT.out _) HONE.out (by unfold maxLen; omega) (by omega) ?_))
 intro A' c' S' w5 hO' hS' hC'
 obtain ⟨hI5, hb5⟩ := app_strs (B := w.heap.size) HSB.out (w1 := wr.alloc (.cells #[.string (strB y)] 9)) (fs := out) (gs := [y]) (by simp; omega) (by rw [List.length_append, List.length_singleton, HN.out]) hO' (fun g hg => (hS' g hg).imp id (fun h => by simpa using h)) hC'
 have HB5 := Lib.hid (HB.out.trans (((Below.refl _ _).alloc hbw _).trans hb5))
 have HN5 : Hid (n + 1 = (out ++ [y]).length) := Lib.hid (by rw [List.length_append, List.length_singleton, HN.out])
 have HI5 := Lib.hid hI5
 clear hb5 hO' hS' hC' HOA HLIT HONE HSB HE HF hI5 hx1
 go_wp2_with fail
 go_ret
 exact ⟨A', c', by rw [HSP.out, ← HN5.out]; rfl, by rw [HSP.out]; exact HI5.out, HB5.out⟩
end Go.Proofs.YtlacpcdbgimnmaaGreatDoor
