/- FieldsGet of the reference. Condition: the text is at most 2^40 bytes. -/
import Derived.Test.YtjnhiiaejeaikaaGreatDoorRFieldsGet
set_option linter.unnecessarySimpa false
set_option linter.unusedSimpArgs false
set_option linter.unusedVariables false
namespace Go.Proofs.YtjnhiiaejeaikaaGreatDoor
open Go Go.Lib Go.RowKit
theorem drop_ne {s : Str} {j : Nat} (h : j < s.length) : s.drop j ≠ [] := by
 intro e
 have := congrArg List.length e
 rw [List.length_drop, List.length_nil] at this
 omega
theorem ext_mid (b : Str) (i j : Nat) : (strB b).extract i (i + j) = strB ((b.drop i).take j) := by
 rw [ext_strB, List.drop_take, Nat.add_sub_cancel_left]
theorem encs_len_le : ∀ (l : List Str), l.length ≤ (encs l).length
 | [] => by simp
 | a :: l => by
   rw [encs_cons, List.length_append, List.length_cons]
   have := encs_len_le l
   have := enc1_len a
   omega
set_option maxRecDepth 100000 in
set_option maxHeartbeats 4000000 in
theorem spFieldsGet_any (s : Str) (w : World) (hs : s.length ≤ 1099511627776) : Calls Tryz.prog 75 #[.string (strB s)] w (GotRec s w) := by
 have hsz : (strB s).size = s.length := rfl
 obtain ⟨i0, hi0, hz0, hz1, hz2⟩ := info_parts info_strs
 go_enter Tryz.func75, Tryz.ntmps75
 go_wp2_with fail
 go_loopw [4, 5] (fun t i wr => ∃ (out : List Str) (j : Nat) (A : Option Addr) (c n : Nat), t = .slice A n c ∧ i = .int .i64 (j : Int) ∧ j ≤ s.length ∧ n ≤ 2048 ∧ (¬ s.length ≤ 2048 → j = 0) ∧ Hid (n = out.length) ∧ Hid (encs out = s.take j) ∧ Hid (∀ f ∈ out, f.length ≤ 999999999) ∧ Hid (StrsIn w.heap.size wr A c out) ∧ Hid (Below w.heap.size w wr)) (fun _ i _ => s.length - (RowKit.intOf i).toNat)
 case atStart => exact ⟨[], 0, _, 0, 0, rfl, rfl, Nat.zero_le _, by omega, fun _ => rfl, Lib.hid rfl, Lib.hid rfl, Lib.hid (by simp), Lib.hid (StrsIn.nil' _), Lib.hid bel1⟩
 obtain ⟨out, j, A, c, n, rfl, rfl, hj, hn, hj0, HN, HE, HF, HI, HB⟩ := hrel
 have hbw : w.heap.size ≤ wr.heap.size := HB.out.size
 by_cases hlen : s.length ≤ 2048
 · have hli : (s.length : Int) ≤ 2048 := by omega
   clear hj0
   by_cases hlt : j < s.length
   · have hd : (j : Int) < (s.length : Int) := by omega
     have hx0 : (strB s).extract j s.length = strB (s.drop j) := ext_tail s j
     obtain ⟨rest, hrest⟩ : ∃ r, r = s.drop j := ⟨_, rfl⟩
     rw [← hrest] at hx0
     have hrl : rest.length = s.length - j := by rw [hrest, List.length_drop]
     have HEr : Hid (encs out ++ rest = s) := Lib.hid (by rw [HE.out, hrest, List.take_append_drop])
     have HRN : Hid (rest ≠ []) := Lib.hid (by rw [hrest]; exact drop_ne hlt)
     have HRS := Lib.hid hrest
     clear hrest
     have hji : (0 : Int) ≤ (j : Int) := by omega
     have hjl : (j : Int) ≤ (s.length : Int) := by omega
     go_wp2_with fail
     refine (l1Num_any rest wr (by omega)).mono ?_
     rintro e w1 ⟨v, k, hL, hv9, hk9, rfl, rfl⟩
     by_cases hgood : k ≠ 0 ∧ rest[k]? = some 58 ∧ v ≤ rest.length - k - 1
     · obtain ⟨hk0, hk58, hvl⟩ := hgood
       have hst := stepF_eq (L1_step hL hk0 hk58 hvl)
       have hkl : k < rest.length := (List.getElem?_eq_some_iff.1 hk58).1
       have hk0b : ((k : Int) == 0) = false := by simp; omega
       have hlk : j + k < (strB s).size := by rw [hsz]; omega
       have hch : ((strB s)[j + k]'hlk).toNat = 58 := by
        obtain ⟨cc, x, hc1, hc2, _, hc4⟩ := str_get2 hlk
        have e1 : s[j + k]? = rest[k]? := by rw [HRS.out, List.getElem?_drop]
        rw [e1, hk58] at hc1
        rw [hc4, hc2, ← Option.some.inj hc1]; rfl
       have t1 : IntKind.i64.wrap ((j : Int) + (k : Int)) = (j : Int) + (k : Int) := IntWalk.i64_in _ (by omega)
       have g1 : ¬ (s.length : Int) ≤ (j : Int) + (k : Int) := by omega
       have g2 : (j : Int) + (k : Int) < (s.length : Int) := by omega
       have t2 : IntKind.i64.wrap ((s.length : Int) - (j : Int)) = (s.length : Int) - (j : Int) := IntWalk.i64_in _ (by omega)
       have t3 : IntKind.i64.wrap ((s.length : Int) - (j : Int) - (k : Int)) = (s.length : Int) - (j : Int) - (k : Int) := IntWalk.i64_in _ (by omega)
       have t4 : IntKind.i64.wrap ((s.length : Int) - (j : Int) - (k : Int) - 1) = (s.length : Int) - (j : Int) - (k : Int) - 1 := IntWalk.i64_in _ (by omega)
       have g3 : ¬ (s.length : Int) - (j : Int) - (k : Int) - 1 < (v : Int) := by omega
       have g3b : ¬ (s.length : Int) - (j : Int) - (k : Int) ≤ (v : Int) := by omega
       have g4 : j + k + 1 + v ≤ s.length := by omega
       have u1 : IntKind.i64.wrap ((j : Int) + (k : Int) + 1) = (j : Int) + (k : Int) + 1 := IntWalk.i64_in _ (by omega)
       have u2 : IntKind.i64.wrap ((j : Int) + (k : Int) + 1 + (v : Int)) = (j : Int) + (k : Int) + 1 + (v : Int) := IntWalk.i64_in _ (by omega)
       have g5 : (j : Int) + (k : Int) + 1 + (v : Int) ≤ (s.length : Int) := by omega
       have g6 : (j : Int) + (k : Int) + 1 ≤ (j : Int) + (k : Int) + 1 + (v : Int) := by omega
       have g7 : (0 : Int) ≤ (j : Int) + (k : Int) + 1 := by omega
       have g8 : (0 : Int) ≤ (j : Int) + (k : Int) + 1 + (v : Int) := by omega
       have g9 : ((j : Int) + (k : Int) + 1).toNat = j + k + 1 := by omega
       have g10 : ((j : Int) + (k : Int) + 1 + (v : Int)).toNat = j + k + 1 + v := by omega
       obtain ⟨x, hxx⟩ : ∃ x, x = (rest.drop (k + 1)).take v := ⟨_, rfl⟩
       have hx1 : (strB s).extract (j + k + 1) (j + k + 1 + v) = strB x := by
        rw [ext_mid, hxx, HRS.out, List.drop_drop]
        rfl
       rw [← hxx] at hst
       have HX := Lib.hid hxx
       have HST := Lib.hid hst
       clear hL hk58 hst hxx
       obtain ⟨S, hOS, hSB⟩ := HI.out
       rw [← HN.out] at hOS
       have HOA := Lib.hid (hOS.below (bel1 (o := .cells #[.string (strB x)] 9)))
       have HLIT := Lib.hid (fun (W : World) => RowAt.lit (w := W) (e := 9) (cur := #[.string (strB x)]) (m := 1) rfl)
       have HONE : Hid (∀ u ∈ [x].map strV, u.oneCell' = true) := Lib.hid (strs_one _)
       have HSB := Lib.hid hSB
       clear hOS hSB HI
       go_wp2_with (at_builtin; go_must (refine wpList_append_row rfl _ _ 22 rfl 9 i0 (.string ByteArray.empty) 1 16 Tryz.underlying22 hi0 hz0 hz1 hz2 rfl (by decide) S A _ n c 1 _ (out.map strV) ([x].map strV) rfl rfl HOA.out (HLIT.out _) HONE.out (by unfold maxLen; omega) (by omega) ?_))
       intro A' c' S' w5 hO' hS' hC'
       obtain ⟨hI5, hb5⟩ := app_strs (B := w.heap.size) HSB.out (w1 := wr.alloc (.cells #[.string (strB x)] 9)) (fs := out) (gs := [x]) (by simp; omega) (by rw [List.length_append, List.length_singleton, HN.out]) hO' (fun g hg => (hS' g hg).imp id (fun h => by simpa using h)) hC'
       have HB5 := Lib.hid (HB.out.trans (((Below.refl _ _).alloc hbw _).trans hb5))
       have HI5 := Lib.hid hI5
       have hEn : encs (out ++ [x]) = s.take (j + k + 1 + v) := by
        have e1 : encs (out ++ [x]) ++ rest.drop (k + 1 + v) = s := by
         rw [encs_append, encs_cons, encs_nil, List.append_nil, List.append_assoc, ← HST.out.1]; exact HEr.out
        have e2 : rest.drop (k + 1 + v) = s.drop (j + k + 1 + v) := by rw [HRS.out, List.drop_drop]; congr 1; omega
        rw [e2] at e1
        have e3 := List.take_append_drop (j + k + 1 + v) s
        exact List.append_cancel_right (e1.trans e3.symm)
       have HE5 := Lib.hid hEn
       have HF5 : Hid (∀ f ∈ out ++ [x], f.length ≤ 999999999) := Lib.hid (fun f hf => by
        rcases List.mem_append.1 hf with hf | hf
        · exact HF.out f hf
        · rw [List.mem_singleton] at hf; subst hf; exact HST.out.2)
       have HN5 : Hid (n + 1 = (out ++ [x]).length) := Lib.hid (by rw [List.length_append, List.length_singleton, HN.out])
       have hn1 : n + 1 ≤ 2048 := by
        have h1 := encs_len_le (out ++ [x])
        rw [← HN5.out, HE5.out, List.length_take] at h1
        omega
       have u0 : (0 : Int) ≤ (j : Int) + (k : Int) := by omega
       have u3 : (0 : Int) ≤ (j : Int) := by omega
       clear hb5 hO' hS' hC' HOA HLIT HONE HSB HST HE HF HN hEn hI5 hx0 hx1
       go_wp2_with fail
       go_roundw
       case rel => exact ⟨out ++ [x], j + k + 1 + v, A', c', n + 1, rfl, by simp, g4, hn1, fun h => absurd hlen h, HN5, HE5, HF5, HI5, HB5⟩
       simp [RowKit.intOf]; omega
     have HNO := Lib.hid (no_rec HEr.out HF.out HRN.out (L1_bad hL hgood))
     have HBB : Hid (∀ o, Below w.heap.size w (wr.alloc o)) := Lib.hid (fun o => HB.out.trans (bel1.mono hbw))
     have t1 : IntKind.i64.wrap ((j : Int) + (k : Int)) = (j : Int) + (k : Int) := IntWalk.i64_in _ (by omega)
     have t2 : IntKind.i64.wrap ((s.length : Int) - (j : Int)) = (s.length : Int) - (j : Int) := IntWalk.i64_in _ (by omega)
     have t3 : IntKind.i64.wrap ((s.length : Int) - (j : Int) - (k : Int)) = (s.length : Int) - (j : Int) - (k : Int) := IntWalk.i64_in _ (by omega)
     have t4 : IntKind.i64.wrap ((s.length : Int) - (j : Int) - (k : Int) - 1) = (s.length : Int) - (j : Int) - (k : Int) - 1 := IntWalk.i64_in _ (by omega)
     clear hL
     by_cases hk0 : k = 0
     · subst hk0
       clear hgood t1 t2 t3 t4
       go_wp2_with fail
       exact bodyPost_ret (v := .tuple #[.slice (some ⟨wr.heap.size, 0, none⟩) 0 0, .bool false]) (by simp [results, Tryz.results75, go_sem]) rfl (GotRec.no HNO.out (HBB.out _))
     have hk0b : ((k : Int) == 0) = false := by simp; omega
     by_cases hkl : k < rest.length
     · have g1 : ¬ (s.length : Int) ≤ (j : Int) + (k : Int) := by omega
       have g2 : (j : Int) + (k : Int) < (s.length : Int) := by omega
       have hlk : j + k < (strB s).size := by rw [hsz]; omega
       obtain ⟨cc, x, hc1, hc2, hx9, hc4⟩ := str_get2 hlk
       have e1 : s[j + k]? = rest[k]? := by rw [HRS.out, List.getElem?_drop]
       rw [e1] at hc1
       by_cases h58 : x = 58
       · have hcc : cc = 58 := UInt8.toNat_inj.1 (by rw [← hc2, h58]; rfl)
         have hvl : ¬ v ≤ rest.length - k - 1 := fun h => hgood ⟨hk0, by rw [hc1, hcc], h⟩
         have g3 : (s.length : Int) - (j : Int) - (k : Int) - 1 < (v : Int) := by omega
         have g3b : (s.length : Int) - (j : Int) - (k : Int) ≤ (v : Int) := by omega
         subst h58
         clear hgood hc1 hc2 e1 hcc hvl
         go_wp2_with fail
         exact bodyPost_ret (v := .tuple #[.slice (some ⟨wr.heap.size, 0, none⟩) 0 0, .bool false]) (by simp [results, Tryz.results75, go_sem]) rfl (GotRec.no HNO.out (HBB.out _))
       have hxb : ((x : Int) == 58) = false := by simp; omega
       have hxc : ¬ (x : Int) = 58 := by omega
       have hxd : ((x : Int) != 58) = true := by simp; omega
       clear hgood hc1 hc2 e1
       go_wp2_with fail
       exact bodyPost_ret (v := .tuple #[.slice (some ⟨wr.heap.size, 0, none⟩) 0 0, .bool false]) (by simp [results, Tryz.results75, go_sem]) rfl (GotRec.no HNO.out (HBB.out _))
     have g1 : (s.length : Int) ≤ (j : Int) + (k : Int) := by omega
     clear hgood
     go_wp2_with fail
     exact bodyPost_ret (v := .tuple #[.slice (some ⟨wr.heap.size, 0, none⟩) 0 0, .bool false]) (by simp [results, Tryz.results75, go_sem]) rfl (GotRec.no HNO.out (HBB.out _))
   have hd : ¬ (j : Int) < (s.length : Int) := by omega
   obtain rfl : j = s.length := by omega
   have hEs : encs out = s := by have := HE.out; rwa [List.take_of_length_le (Nat.le_refl _)] at this
   have HES := Lib.hid hEs
   have hfb : ∀ f ∈ out, f.length ≤ 1099511627776 := fun f hf => by have := HF.out f hf; omega
   have P := spFieldsPut_any A c out wr HI.out.row hfb (by rw [← HN.out]; omega)
   rw [← HN.out] at P
   have P := Lib.hid P
   clear hEs hfb HE
   go_wp2_with fail
   refine P.out.mono ?_
   by_cases h60 : out.length ≤ 60
   · have hff := fieldsF_yes h60 (by rw [HES.out]; exact hlen)
     have HR : Hid (IsRec s out) := Lib.hid ⟨HES.out, h60, hlen⟩
     rintro e w2 ⟨rfl, hb2⟩
     rw [hff, HES.out]
     have HB2 := Lib.hid (HB.out.trans (hb2.mono hbw))
     have HI2 := Lib.hid (HI.out.below hb2)
     have hq : ((strB s).toList == (strB s).toList) = true := by simp
     clear hb2 hff HI HB
     go_wp2_with fail
     exact bodyPost_ret (v := .tuple #[.slice A n c, .bool true]) (by simp [results, Tryz.results75, go_sem]) rfl (GotRec.yes HR.out HN.out HI2.out HB2.out)
   have hff := fieldsF_many h60
   have HNO : Hid (∀ l, ¬ IsRec s l) := Lib.hid (fun l hl => by
    have e1 : out = l := encs_inj HF.out (fun f hf => by have := encs_mem hf; rw [hl.1] at this; omega) (HES.out.trans hl.1.symm)
    rw [e1] at h60; exact h60 hl.2.1)
   rintro e w2 ⟨rfl, hb2⟩
   rw [hff]
   have HB2 : Hid (∀ o, Below w.heap.size w (w2.alloc o)) := Lib.hid (fun o => HB.out.trans ((hb2.trans (bel1.mono hb2.size)).mono hbw))
   clear hb2 hff HI HB
   go_wp2_with fail
   exact bodyPost_ret (v := .tuple #[.slice (some ⟨w2.heap.size, 0, none⟩) 0 0, .bool false]) (by simp [results, Tryz.results75, go_sem]) rfl (GotRec.no HNO.out (HB2.out _))
 have hli : ¬ (s.length : Int) ≤ 2048 := by omega
 obtain rfl := hj0 hlen
 have hd : ((0 : Nat) : Int) < (s.length : Int) := by omega
 have hfb : ∀ f ∈ out, f.length ≤ 1099511627776 := fun f hf => by have := HF.out f hf; omega
 have hE0 : encs out = [] := HE.out
 have hout : out = [] := by
  cases out with
  | nil => rfl
  | cons a l => rw [encs_cons] at hE0; have := enc1_ne a; simp at hE0; exact absurd hE0.1 this
 have hs0 : s ≠ [] := by rintro rfl; simp at hlen
 have hsq : ((strB []).toList == (strB s).toList) = false := by rw [strB_list, strB_list]; cases s with
  | nil => exact absurd rfl hs0
  | cons a s => rfl
 have P := spFieldsPut_any A c out wr HI.out.row hfb (by rw [← HN.out]; omega)
 rw [← HN.out] at P
 have P := Lib.hid P
 have HNO : Hid (∀ l, ¬ IsRec s l) := Lib.hid (fun l hl => hlen hl.2.2)
 have HOUT := Lib.hid hout
 clear hfb hE0 hout HE hs0
 go_wp2_with fail
 refine P.out.mono ?_
 have hff : fieldsF out = ([], true) := by rw [HOUT.out]; rfl
 rintro e w2 ⟨rfl, hb2⟩
 rw [hff]
 have HB2 : Hid (∀ o, Below w.heap.size w (w2.alloc o)) := Lib.hid (fun o => HB.out.trans ((hb2.trans (bel1.mono hb2.size)).mono hbw))
 clear hb2 hff HI HB
 go_wp2_with fail
 exact bodyPost_ret (v := .tuple #[.slice (some ⟨w2.heap.size, 0, none⟩) 0 0, .bool false]) (by simp [results, Tryz.results75, go_sem]) rfl (GotRec.no HNO.out (HB2.out _))
end Go.Proofs.YtjnhiiaejeaikaaGreatDoor
